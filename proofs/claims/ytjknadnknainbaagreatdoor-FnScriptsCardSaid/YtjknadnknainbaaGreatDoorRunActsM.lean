/- A run of acts, in the program and in the reference. -/
import Derived.Test.YtjknadnknainbaaGreatDoorMem
import Derived.Test.YtjknadnknainbaaGreatDoorDoAct
import Derived.Deep.RegionHeld3
import Derived.Deep.DeepCutAuto
namespace Go.Proofs.YtjknadnknainbaaGreatDoor
open Go.RowKit
/-- A block that stands as it is told, or with cells that are the same by reckoning; fails where it does not stand. -/
theorem blkcBy2 {w : World} {b t : Nat} {cs : Array Value} (h : Blk w b t cs := by first | ((first | ((repeat (with_reducible first | assumption | apply Blk.drew | apply Blk.drewN | (apply Blk.new; first | rfl | (simp; done)) | apply Blk.alloc | apply Blk.set_ | (apply Blk.past; focus assumption) | (apply Blk.far; focus (first | (simp; done) | (simp; omega) | (dsimp only; omega))))); done) | (apply Blk.cast; (case h => (repeat (with_reducible first | assumption | apply Blk.drew | apply Blk.drewN | (apply Blk.new; first | rfl | (simp; done)) | apply Blk.alloc | apply Blk.set_ | (apply Blk.past; focus assumption) | (apply Blk.far; focus (first | (simp; done) | (simp; omega) | (dsimp only; omega)))))); (case e => rfl)))) | fail) : Blk w b t cs := h

def newSV (z : Int) : SV := ⟨z, 0, 0, [], [], []⟩
noncomputable def stTo (z : Int) (xs : List Int) : Nat → SV
  | 0 => newSV z
  | j + 1 => doS (stTo z xs j) (xs.getD (j * 4) 0) (xs.getD (j * 4 + 1) 0) (xs.getD (j * 4 + 2) 0) (xs.getD (j * 4 + 3) 0)
noncomputable def codesTo (z : Int) (xs : List Int) : Nat → List Int
  | 0 => []
  | j + 1 => codesTo z xs j ++ [doI (stTo z xs j) (xs.getD (j * 4) 0) (xs.getD (j * 4 + 1) 0) (xs.getD (j * 4 + 2) 0) (xs.getD (j * 4 + 3) 0)]
theorem codesTo_length (z : Int) (xs : List Int) (j : Nat) : (codesTo z xs j).length = j := by
  induction j with
  | zero => rfl
  | succ j ih => simp [codesTo, ih]
theorem stTo_len (z : Int) (xs : List Int) (j : Nat) : (stTo z xs j).js.length ≤ j ∧ (stTo z xs j).ts.length ≤ 400 * j ∧ (stTo z xs j).fs.length ≤ 400 * j := by
  induction j with
  | zero => exact ⟨Nat.le_refl _, Nat.le_refl _, Nat.le_refl _⟩
  | succ j ih =>
    have h := lenDo (stTo z xs j) (xs.getD (j * 4) 0) (xs.getD (j * 4 + 1) 0) (xs.getD (j * 4 + 2) 0) (xs.getD (j * 4 + 3) 0)
    rw [stTo]
    omega
theorem getD_of {xs : List Int} {i : Nat} {x : Int} (h : xs[i]? = some x) : xs.getD i 0 = x := by rw [List.getD_eq_getElem?_getD, h]; rfl
def raB (z : Int) (n : Nat) : Bool := inB z 1 1000 && decide (n ≤ 60)
noncomputable def raS (z : Int) (xs : List Int) (n : Nat) : SV := if raB z n then stTo z xs n else newSV 0
noncomputable def raL (z : Int) (xs : List Int) (n : Nat) : List Int := if raB z n then codesTo z xs n else []
def GivesRun (w : World) (S : SV) (L : List Int) (e : Ending) (w' : World) : Prop :=
  ∃ J cj T tcp F cf G cg, (∀ q p, (Value.slice F S.fs.length cf).ownBlock = some q → (Value.slice G L.length cg).ownBlock = some p → q ≠ p) ∧
    e = .returned (.tuple #[.agg #[.int .i64 S.z, .int .i64 S.n, .int .i64 S.b, .slice J S.js.length cj, .slice T S.ts.length tcp, .slice F S.fs.length cf], .slice G L.length cg]) ∧ w'.ownsRow w.heap.size 64 4 (.slice J S.js.length cj) S.js.length (ints (flatJ S.js)) ∧ w'.ownsRow w.heap.size 88 2 (.slice T S.ts.length tcp) S.ts.length (ints (flatT S.ts)) ∧ w'.ownsRow w.heap.size 3 1 (.slice F S.fs.length cf) S.fs.length (ints S.fs) ∧ w'.ownsRow w.heap.size 3 1 (.slice G L.length cg) L.length (ints L) ∧ Below w.heap.size w w'
def CutA (R : SV) (cnt : Int) (W : World) (v6 v7 : Value) (wx : World) : Prop :=
  ∃ (b : Nat) (J : Option Addr) (cj : Nat) (T : Option Addr) (tcp : Nat) (F : Option Addr) (cf : Nat), v6 = .pointer (some ⟨b, 0, none⟩) ∧ v7 = .int .i64 cnt ∧ W.heap.size ≤ b ∧
    Blk wx b 40 #[.int .i64 R.z, .int .i64 R.n, .int .i64 R.b, .slice J R.js.length cj, .slice T R.ts.length tcp, .slice F R.fs.length cf] ∧ (wx.ownsRow W.heap.size 64 4 (.slice J R.js.length cj) R.js.length (ints (flatJ R.js)) ∧ wx.ownsRow W.heap.size 88 2 (.slice T R.ts.length tcp) R.ts.length (ints (flatT R.ts)) ∧ wx.ownsRow W.heap.size 3 1 (.slice F R.fs.length cf) R.fs.length (ints R.fs)) ∧ Below W.heap.size W wx
set_option maxRecDepth 100000 in
set_option maxHeartbeats 6400000 in
theorem iRunActsYes (z : Int) (A : Option Addr) (c n : Nat) (xs : List Int) (w : World) (hc : Cells w w.heap.size A (ints xs)) (hl : xs.length = n * 4) (hz : inB z 1 1000 = true) (hn : n ≤ 60) :
    Calls Tryz.prog 25 #[.int .i64 z, .slice A n c] w (GivesRun w (stTo z xs n) (codesTo z xs n)) := by
  have HN := hid (fun w => iSchedNew z w)
  rw [hz, pick_yes] at HN
  have hg : decide (60 < (n : Int)) = false := by simp; omega
  have HC := hid hc
  have HL := hid hl
  clear hc hl hz
  go_enter Tryz.func25, Tryz.ntmps25
  have b_0 := (Below.refl w.heap.size w)
  have s_0 := b_0.size
  go_wp2_with fail
  refine calls_forget1 (W := w) (b0 := w.heap.size) (t0 := 40) (c0 := #[.int .i64 0, .int .i64 0, .int .i64 0, .slice none 0 0, .slice none 0 0, .slice none 0 0]) ?_ ?_ ?_
  (focus exact blkcBy2)
  (focus (exact belBy))
  intro X1 r_n hX1
  have sX1 := hX1.size
  have r_lt := r_n.lt
  refine (HN.out _).mono ?_
  rintro e w1 ⟨rfl, hb1⟩
  have s1 := hb1.size
  have hT1 := hX1.trans (hb1.mono sX1)
  have b_1 := b_0.trans (hT1.mono (by omega))
  have r_1 := Blk.past hb1 r_n
  clear b_0 r_n hX1 hT1 hb1
  have cell_r := r_1.cell
  have froz_r := r_1.frozen
  have lt_r := r_1.lt
  have HR := hid r_1
  have HB := hid b_1
  clear r_1 b_1 cell_r froz_r
  go_wp2
  go_loopw [8, 10, 11, 12, 29] (fun o _ _ _ i wx => ∃ (j : Nat) (S' : SV) (L' : List Int) (J1 : Option Addr) (cj1 : Nat) (T1 : Option Addr) (tc1 : Nat) (F1 : Option Addr) (cf1 : Nat) (G : Option Addr) (cg : Nat), j ≤ n ∧ i = .int .i64 j ∧ o = .slice G j cg ∧ stTo z xs j = S' ∧ codesTo z xs j = L' ∧
    (∀ q p, (Value.slice F1 S'.fs.length cf1).ownBlock = some q → (Value.slice G j cg).ownBlock = some p → q ≠ p) ∧ wx.ownsRow w1.heap.size 64 4 (.slice J1 (S'.js).length cj1) (S'.js).length (ints (flatJ (S'.js))) ∧ wx.ownsRow w1.heap.size 88 2 (.slice T1 (S'.ts).length tc1) (S'.ts).length (ints (flatT (S'.ts))) ∧ wx.ownsRow w1.heap.size 3 1 (.slice F1 (S'.fs).length cf1) (S'.fs).length (ints (S'.fs)) ∧ wx.ownsRow w1.heap.size 3 1 (.slice G j cg) j (ints L') ∧
    Blk wx w.heap.size 40 #[.int .i64 0, .int .i64 0, .int .i64 0, .slice none 0 0, .slice none 0 0, .slice none 0 0] ∧
    Blk wx w1.heap.size 40 #[.int .i64 S'.z, .int .i64 S'.n, .int .i64 S'.b, .slice J1 S'.js.length cj1, .slice T1 S'.ts.length tc1, .slice F1 S'.fs.length cf1] ∧ Below w.heap.size w wx) (fun _ _ _ _ i _ => n - (intOf i).toNat)
  case atStart => exact ⟨0, newSV z, [], none, 0, none, 0, none, 0, some ⟨w1.heap.size + 1, 0, none⟩, 0, by omega, rfl, rfl, rfl, rfl, (fun q p hq hp => by cases hq), World.ownsRow_nil _ _ _ _, World.ownsRow_nil _ _ _ _, World.ownsRow_nil _ _ _ _, own_lit (size := 1) #[] 0 (by first | rfl | simp) (by first | omega | (simp; omega)) (Nat.zero_le _) rfl, by have h := HR.out; exact blkcBy, by exact blkcBy, by have h := HB.out; exact belBy⟩
  case round =>
    obtain ⟨j, S', L', J1, cj1, T1, tc1, F1, cf1, G, cg, hj, rfl, rfl, e1, e2, ne0, hrj, hrt, hrf, hrc, hr, ho, hb⟩ := hrel
    have zr := hb.size
    have hsl := stTo_len z xs j
    rw [e1] at hsl
    obtain ⟨l1, l2, l3⟩ := hsl
    by_cases hlt : j < n
    · obtain ⟨x0, f0⟩ : ∃ x, xs[j * 4]? = some x := ⟨_, List.getElem?_eq_getElem (by have := HL.out; omega)⟩
      obtain ⟨x1, f1⟩ : ∃ x, xs[j * 4 + 1]? = some x := ⟨_, List.getElem?_eq_getElem (by have := HL.out; omega)⟩
      obtain ⟨x2, f2⟩ : ∃ x, xs[j * 4 + 2]? = some x := ⟨_, List.getElem?_eq_getElem (by have := HL.out; omega)⟩
      obtain ⟨x3, f3⟩ : ∃ x, xs[j * 4 + 3]? = some x := ⟨_, List.getElem?_eq_getElem (by have := HL.out; omega)⟩
      obtain ⟨b, off, rfl, hbB, hcl⟩ := HC.out (by rw [ints_length]; have := HL.out; omega)
      have hd0 := (hb.cell (p := ⟨b, off + j * 4, none⟩) hbB).trans (hcl (j * 4) _ (ints_get f0))
      have hd1 := (hb.cell (p := ⟨b, off + j * 4 + 1, none⟩) hbB).trans (hcl (j * 4 + 1) _ (ints_get f1))
      have hd2 := (hb.cell (p := ⟨b, off + j * 4 + 2, none⟩) hbB).trans (hcl (j * 4 + 2) _ (ints_get f2))
      have hd3 := (hb.cell (p := ⟨b, off + j * 4 + 3, none⟩) hbB).trans (hcl (j * 4 + 3) _ (ints_get f3))
      obtain ⟨R, hR⟩ : ∃ R, doS S' x0 x1 x2 x3 = R := ⟨_, rfl⟩
      obtain ⟨cd, hcd⟩ : ∃ cd, doI S' x0 x1 x2 x3 = cd := ⟨_, rfl⟩
      have HDO := hid (fun J T F cj ct cf w h => iDoAct S' x0 x1 x2 x3 J T F cj ct cf w h (by omega) (by omega) (by omega))
      rw [hR, hcd] at HDO
      have hn1 : stTo z xs (j + 1) = R := by rw [stTo, e1, getD_of f0, getD_of f1, getD_of f2, getD_of f3, hR]
      have hn2 : codesTo z xs (j + 1) = L' ++ [cd] := by rw [codesTo, e1, e2, getD_of f0, getD_of f1, getD_of f2, getD_of f3, hcd]
      have H1 := hid hn1
      have H2 := hid hn2
      have hlt' : (j : Int) < (n : Int) := by omega
      clear hcl f0 f1 f2 f3 hR hcd hn1 hn2 e1 e2 ne0
      have b_10 := hb
      have s_10 := b_10.size
      have rj_in := own_off hrj ho (by decide)
      have rj_10 := hrj
      clear hrj
      have rt_in := own_off hrt ho (by decide)
      have rt_10 := hrt
      clear hrt
      have rf_in := own_off hrf ho (by decide)
      have rf_10 := hrf
      clear hrf
      have rc_in := own_off hrc ho (by decide)
      have rc_10 := hrc
      clear hrc
      have r_10 := hr
      clear hr
      have r_lt := r_10.lt
      have cell_r := r_10.cell
      have froz_r := r_10.frozen
      have lt_r := r_10.lt
      have s_10 := ho
      clear ho
      have s_lt := s_10.lt
      have cell_s := s_10.cell
      have froz_s := s_10.frozen
      have lt_s := s_10.lt
      go_upto_region 8 with fail
      refine wp_forget1 (w0 := wr) (B := wr.heap.size) (b0 := wr.heap.size) (t0 := 30) (c0 := #[.int .i64 x0, .int .i64 x1, .int .i64 x2, .int .i64 x3]) ?_ ?_ ?_
      (focus exact blkcBy2)
      (focus (exact belBy))
      intro w11 a_11 hX11
      have sX11 := hX11.size
      have a_lt := a_11.lt
      have b_11 := b_10.trans (hX11.mono (by omega))
      have rj_11 := own_below rj_10 hX11
      have rt_11 := own_below rt_10 hX11
      have rf_11 := own_below rf_10 hX11
      have rc_11 := own_below rc_10 hX11
      have r_11 := Blk.past hX11 r_10
      have s_11 := Blk.past hX11 s_10
      clear rj_10 rt_10 rf_10 rc_10 r_10 s_10 b_10 cell_r froz_r lt_r cell_s froz_s lt_s hX11
      have cell_r := r_11.cell
      have froz_r := r_11.frozen
      have lt_r := r_11.lt
      have cell_s := s_11.cell
      have froz_s := s_11.frozen
      have lt_s := s_11.lt
      have cell_a := a_11.cell
      have froz_a := a_11.frozen
      have lt_a := a_11.lt
      go_wp2_with fail
      refine calls_forget0 (W := w11) ?_ ?_
      (focus (exact belBy))
      intro X12 hX12
      have sX12 := hX12.size
      refine (HDO.out _ _ _ _ _ _ _ ⟨own_weak (own_below rj_11 hX12) (Nat.zero_le _), own_weak (own_below rt_11 hX12) (Nat.zero_le _), own_weak (own_below rf_11 hX12) (Nat.zero_le _)⟩).mono ?_
      rintro e w12 ⟨Nj, nj', Nt, nt', Nf, nf', rfl, nj_12, nt_12, nf_12, hb12⟩
      have s12 := hb12.size
      have hT12 := hX12.trans (hb12.mono sX12)
      have b_12 := b_11.trans (hT12.mono (by omega))
      have rj_12 := own_below rj_11 hT12
      have rt_12 := own_below rt_11 hT12
      have rf_12 := own_below rf_11 hT12
      have rc_12 := own_below rc_11 hT12
      have r_12 := Blk.past hT12 r_11
      have s_12 := Blk.past hT12 s_11
      have a_12 := Blk.past hT12 a_11
      have nj_in := own_in nj_12
      have nt_in := own_in nt_12
      have nf_in := own_in nf_12
      clear rj_11 rt_11 rf_11 rc_11 r_11 s_11 a_11 b_11 cell_r froz_r lt_r cell_s froz_s lt_s cell_a froz_a lt_a hX12 hT12 hb12
      have cell_r := r_12.cell
      have froz_r := r_12.frozen
      have lt_r := r_12.lt
      have cell_s := s_12.cell
      have froz_s := s_12.frozen
      have lt_s := s_12.lt
      have cell_a := a_12.cell
      have froz_a := a_12.frozen
      have lt_a := a_12.lt
      clear rj_12
      clear rt_12
      clear rf_12
      go_upto_region 10 with fail
      refine wp_touch2 (w0 := w12) (L := [w1.heap.size]) (b0 := w1.heap.size) (t0 := 40) (c0 := #[.int .i64 R.z, .int .i64 R.n, .int .i64 R.b, .slice Nj R.js.length nj', .slice Nt R.ts.length nt', .slice Nf R.fs.length nf']) (b1 := w12.heap.size) (t1 := 40) (c1 := #[.int .i64 R.z, .int .i64 R.n, .int .i64 R.b, .slice Nj R.js.length nj', .slice Nt R.ts.length nt', .slice Nf R.fs.length nf']) ?_ ?_ ?_ ?_
      (focus exact blkcBy2)
      (focus exact blkcBy2)
      (focus (exact tchBy))
      intro w13 s_13 nx_13 hX13
      have sX13 := hX13.size
      have nx_lt := nx_13.lt
      have b_13 := hX13.below b_12 (by first | (simp; done) | (simp; omega))
      have rc_13 := own_touch' hX13 rc_12 (fun q hq => by have h1 := rc_in q hq; (try have e0 := own_ne_obj rc_12 s_12 (by decide) q hq); simp; omega)
      have nj_13 := own_touch' hX13 nj_12 (fun q hq => by have h1 := nj_in q hq; (try have e0 := own_ne_obj nj_12 s_12 (by decide) q hq); simp; omega)
      have nt_13 := own_touch' hX13 nt_12 (fun q hq => by have h1 := nt_in q hq; (try have e0 := own_ne_obj nt_12 s_12 (by decide) q hq); simp; omega)
      have nf_13 := own_touch' hX13 nf_12 (fun q hq => by have h1 := nf_in q hq; (try have e0 := own_ne_obj nf_12 s_12 (by decide) q hq); simp; omega)
      have r_13 := Blk.touch hX13 r_12 (by first | (simp; done) | (simp; omega))
      have a_13 := Blk.touch hX13 a_12 (by first | (simp; done) | (simp; omega))
      clear rc_12 nj_12 nt_12 nf_12 r_12 s_12 a_12 b_12 cell_r froz_r lt_r cell_s froz_s lt_s cell_a froz_a lt_a hX13
      have cell_r := r_13.cell
      have froz_r := r_13.frozen
      have lt_r := r_13.lt
      have cell_s := s_13.cell
      have froz_s := s_13.frozen
      have lt_s := s_13.lt
      have cell_a := a_13.cell
      have froz_a := a_13.frozen
      have lt_a := a_13.lt
      have cell_nx := nx_13.cell
      have froz_nx := nx_13.frozen
      have lt_nx := nx_13.lt
      go_wp2_with (at_builtin; refine wpList_appi rfl _ _ 38 rfl w1.heap.size 3 (.int .i64 0) 1 8 Tryz.underlying38 infoInt rfl (by decide) _ j _ rfl (rc_13.alloc _) ⟨w13.heap.size, 0, none⟩ 1 1 _ rfl rfl (one_new _ _ _) (one_one _) (by omega) (by decide) (by simp; omega) ?_)
      intro A_rc c_rc w14 rc_14 hg14 li14
      have hg14 := grown_alloc hg14
      try simp only [World.size_alloc] at li14
      have s14 := hg14.size
      have b_14 := gr_below hg14 b_13 (by omega) (fun q hq => by have h1 := rc_in q hq; omega)
      have nj_14 := gr_own hg14 nj_13 (fun q p hq hp => by first | (have h1 := rc_in q hq; have h2 := nj_in p hp; omega) | exact own_ne rc_13 nj_13 (by decide) q p hq hp | exact ne_rc_nj q p hq hp | exact (ne_nj_rc p q hp hq).symm)
      have nt_14 := gr_own hg14 nt_13 (fun q p hq hp => by first | (have h1 := rc_in q hq; have h2 := nt_in p hp; omega) | exact own_ne rc_13 nt_13 (by decide) q p hq hp | exact ne_rc_nt q p hq hp | exact (ne_nt_rc p q hp hq).symm)
      have nf_14 := gr_own hg14 nf_13 (fun q p hq hp => by first | (have h1 := rc_in q hq; have h2 := nf_in p hp; omega) | exact own_ne rc_13 nf_13 (by decide) q p hq hp | exact ne_rc_nf q p hq hp | exact (ne_nf_rc p q hp hq).symm)
      have r_14 := gr_blk hg14 r_13 (fun q hq => by have h1 := rc_in q hq; omega)
      have s_14 := gr_blk hg14 s_13 (fun q hq => by have h1 := rc_in q hq; omega)
      have a_14 := gr_blk hg14 a_13 (fun q hq => by have h1 := rc_in q hq; omega)
      have nx_14 := gr_blk hg14 nx_13 (fun q hq => by have h1 := rc_in q hq; omega)
      have rc_ix : ∀ q, (Value.slice A_rc (j + 1) c_rc).ownBlock = some q → q < wr.heap.size ∨ w13.heap.size ≤ q := (fun q hq => by have h3 := (own_in rc_14 q hq).2; rcases li14 q hq with h | h; (have h1 := rc_in q h; omega); omega)
      clear rc_13 nj_13 nt_13 nf_13 r_13 s_13 a_13 nx_13 b_13 cell_r froz_r lt_r cell_s froz_s lt_s cell_a froz_a lt_a cell_nx froz_nx lt_nx hg14 li14 rc_in
      have rc_in := rc_ix
      clear rc_ix
      have cell_r := r_14.cell
      have froz_r := r_14.frozen
      have lt_r := r_14.lt
      have cell_s := s_14.cell
      have froz_s := s_14.frozen
      have lt_s := s_14.lt
      have cell_a := a_14.cell
      have froz_a := a_14.frozen
      have lt_a := a_14.lt
      have cell_nx := nx_14.cell
      have froz_nx := nx_14.frozen
      have lt_nx := nx_14.lt
      rw [← ints_snoc] at rc_14
      have K1 := hid nj_14
      have K2 := hid nt_14
      have K3 := hid nf_14
      have K4 := hid rc_14
      have K5 := hid r_14
      have K6 := hid s_14
      have K7 := hid b_14
      have KN : ∀ q p, (Value.slice Nf R.fs.length nf').ownBlock = some q → (Value.slice A_rc (j + 1) c_rc).ownBlock = some p → q ≠ p := fun q p hq hp => (by have h1 := nf_in q hq; have h2 := rc_in p hp; omega)
      clear nj_14 nt_14 nf_14 rc_14 r_14 s_14 b_14 cell_r froz_r cell_s froz_s
      go_wp2
      go_roundw
      case rel => exact ⟨j + 1, R, L' ++ [cd], Nj, nj', Nt, nt', Nf, nf', A_rc, c_rc, by omega, by go_num, rfl, H1.out, H2.out, KN, own_weak (by have h := K1.out; exact ownBy) (by omega), own_weak (by have h := K2.out; exact ownBy) (by omega), own_weak (by have h := K3.out; exact ownBy) (by omega), by have h := K4.out; exact ownBy, by have h := K5.out; exact blkcBy, by have h := K6.out; exact blkcBy, by have h := K7.out; exact belBy⟩
      case measure => simp [intOf]; omega
    · obtain rfl : j = n := by omega
      have hl2 := codesTo_length z xs j
      rw [e2] at hl2
      have E := hid (And.intro e1 e2)
      have HN0 := hid ne0
      have HL2 := hid hl2
      clear e1 e2 ne0 hl2
      have b_10 := hb
      have s_10 := b_10.size
      have rj_in := own_off hrj ho (by decide)
      have rj_10 := hrj
      clear hrj
      have rt_in := own_off hrt ho (by decide)
      have rt_10 := hrt
      clear hrt
      have rf_in := own_off hrf ho (by decide)
      have rf_10 := hrf
      clear hrf
      have rc_in := own_off hrc ho (by decide)
      have rc_10 := hrc
      clear hrc
      have r_10 := hr
      clear hr
      have r_lt := r_10.lt
      have cell_r := r_10.cell
      have froz_r := r_10.frozen
      have lt_r := r_10.lt
      have s_10 := ho
      clear ho
      have s_lt := s_10.lt
      have cell_s := s_10.cell
      have froz_s := s_10.frozen
      have lt_s := s_10.lt
      have K1 := hid rj_10
      have K2 := hid rt_10
      have K3 := hid rf_10
      have K4 := hid rc_10
      have K7 := hid b_10
      clear rj_10 rt_10 rf_10 rc_10 b_10
      go_wp2_with fail
      ((try simp only [Exit.inBlock, Exit.then]); apply bodyPost_ret0; focus ((try simp only [results, Tryz.results25]); (try go_simp); (try rfl)))
      obtain ⟨rfl, rfl⟩ := E.out
      refine ⟨J1, cj1, T1, tc1, F1, cf1, G, cg, ?_, ?_, ?_, ?_, ?_, ?_, ?_⟩
      · rw [HL2.out]; exact HN0.out
      · rw [HL2.out]
      · refine own_weak (base := w1.heap.size) ?_ (by omega)
        have h := K1.out
        exact ownBy
      · refine own_weak (base := w1.heap.size) ?_ (by omega)
        have h := K2.out
        exact ownBy
      · refine own_weak (base := w1.heap.size) ?_ (by omega)
        have h := K3.out
        exact ownBy
      · rw [HL2.out]
        refine own_weak (base := w1.heap.size) ?_ (by omega)
        have h := K4.out
        exact ownBy
      · have hb := K7.out
        exact belBy

set_option maxRecDepth 100000 in
set_option maxHeartbeats 6400000 in
theorem sRunActsYes (z : Int) (A : Option Addr) (c n : Nat) (xs : List Int) (w : World) (hc : Cells w w.heap.size A (ints xs)) (hl : xs.length = n * 4) (hz : inB z 1 1000 = true) (hn : n ≤ 60) :
    Calls Tryz.prog 9 #[.int .i64 z, .slice A n c] w (GivesRun w (stTo z xs n) (codesTo z xs n)) := by
  have HN := hid (fun w => sSchedNew z w)
  rw [hz, pick_yes] at HN
  have hg : decide (60 < (n : Int)) = false := by simp; omega
  have HC := hid hc
  have HL := hid hl
  clear hc hl hz
  go_enter Tryz.func9, Tryz.ntmps9
  go_upto_region 2 with fail
  obtain ⟨W1, hW1⟩ : ∃ W1, W1 = (w.alloc (.cells #[.int .i64 0, .int .i64 0, .int .i64 0, .slice none 0 0, .slice none 0 0, .slice none 0 0] 40)).alloc (.cells #[] 3) := ⟨_, rfl⟩
  have ho : W1.ownsRow (w.heap.size + 1) 3 1 (.slice (some ⟨w.heap.size + 1, 0, none⟩) 0 0) 0 (ints []) := by rw [hW1]; exact own_lit (size := 1) #[] 0 (by simp) (by simp) (Nat.zero_le _) rfl
  have hr : Blk W1 w.heap.size 40 #[.int .i64 0, .int .i64 0, .int .i64 0, .slice none 0 0, .slice none 0 0, .slice none 0 0] := by rw [hW1]; exact blkcBy
  have hb1 : Below w.heap.size w W1 := by rw [hW1]; exact belBy
  rw [← hW1]
  clear hW1
  have b_0 := hb1
  have s_0 := b_0.size
  have o_in := own_in ho
  have o_0 := ho
  clear ho
  have r_0 := hr
  clear hr
  have r_lt := r_0.lt
  have cell_r := r_0.cell
  have froz_r := r_0.frozen
  have lt_r := r_0.lt
  go_wp2_with fail
  refine calls_forget0 (W := W1) ?_ ?_
  (focus (exact belBy))
  intro X1 hX1
  have sX1 := hX1.size
  refine (HN.out _).mono ?_
  rintro e w1 ⟨rfl, hb1⟩
  have s1 := hb1.size
  have hT1 := hX1.trans (hb1.mono sX1)
  have b_1 := b_0.trans (hT1.mono (by omega))
  have o_1 := own_below o_0 hT1
  have r_1 := Blk.past hT1 r_0
  clear o_0 r_0 b_0 cell_r froz_r lt_r hX1 hT1 hb1
  have cell_r := r_1.cell
  have froz_r := r_1.frozen
  have lt_r := r_1.lt
  have HR := hid r_1
  have HB := hid b_1
  have HO := hid o_1
  clear r_1 b_1 o_1 cell_r froz_r
  go_wp2
  go_loopw [6, 9, 10, 11] (fun o i _ _ wx => ∃ (j : Nat) (S' : SV) (L' : List Int) (J1 : Option Addr) (cj1 : Nat) (T1 : Option Addr) (tc1 : Nat) (F1 : Option Addr) (cf1 : Nat) (G : Option Addr) (cg : Nat), j ≤ n ∧ i = .int .i64 j ∧ o = .slice G j cg ∧ stTo z xs j = S' ∧ codesTo z xs j = L' ∧
    (∀ q p, (Value.slice F1 S'.fs.length cf1).ownBlock = some q → (Value.slice G j cg).ownBlock = some p → q ≠ p) ∧ wx.ownsRow w1.heap.size 64 4 (.slice J1 (S'.js).length cj1) (S'.js).length (ints (flatJ (S'.js))) ∧ wx.ownsRow w1.heap.size 88 2 (.slice T1 (S'.ts).length tc1) (S'.ts).length (ints (flatT (S'.ts))) ∧ wx.ownsRow w1.heap.size 3 1 (.slice F1 (S'.fs).length cf1) (S'.fs).length (ints (S'.fs)) ∧ wx.ownsRow (w.heap.size + 1) 3 1 (.slice G j cg) j (ints L') ∧
    Blk wx w.heap.size 40 #[.int .i64 0, .int .i64 0, .int .i64 0, .slice none 0 0, .slice none 0 0, .slice none 0 0] ∧
    Blk wx w1.heap.size 40 #[.int .i64 S'.z, .int .i64 S'.n, .int .i64 S'.b, .slice J1 S'.js.length cj1, .slice T1 S'.ts.length tc1, .slice F1 S'.fs.length cf1] ∧ Below w.heap.size w wx) (fun _ i _ _ _ => n - (intOf i).toNat)
  case atStart => exact ⟨0, newSV z, [], none, 0, none, 0, none, 0, some ⟨w.heap.size + 1, 0, none⟩, 0, by omega, rfl, rfl, rfl, rfl, (fun q p hq hp => by cases hq), World.ownsRow_nil _ _ _ _, World.ownsRow_nil _ _ _ _, World.ownsRow_nil _ _ _ _, by have h := HO.out; exact ownBy, by have h := HR.out; exact blkcBy, by exact blkcBy, by have h := HB.out; exact belBy⟩
  case round =>
    obtain ⟨j, S', L', J1, cj1, T1, tc1, F1, cf1, G, cg, hj, rfl, rfl, e1, e2, ne0, hrj, hrt, hrf, hrc, hr, ho, hb⟩ := hrel
    have zr := hb.size
    have hsl := stTo_len z xs j
    rw [e1] at hsl
    obtain ⟨l1, l2, l3⟩ := hsl
    by_cases hlt : j < n
    · obtain ⟨x0, f0⟩ : ∃ x, xs[j * 4]? = some x := ⟨_, List.getElem?_eq_getElem (by have := HL.out; omega)⟩
      obtain ⟨x1, f1⟩ : ∃ x, xs[j * 4 + 1]? = some x := ⟨_, List.getElem?_eq_getElem (by have := HL.out; omega)⟩
      obtain ⟨x2, f2⟩ : ∃ x, xs[j * 4 + 2]? = some x := ⟨_, List.getElem?_eq_getElem (by have := HL.out; omega)⟩
      obtain ⟨x3, f3⟩ : ∃ x, xs[j * 4 + 3]? = some x := ⟨_, List.getElem?_eq_getElem (by have := HL.out; omega)⟩
      obtain ⟨b, off, rfl, hbB, hcl⟩ := HC.out (by rw [ints_length]; have := HL.out; omega)
      have hd0 := (hb.cell (p := ⟨b, off + j * 4, none⟩) hbB).trans (hcl (j * 4) _ (ints_get f0))
      have hd1 := (hb.cell (p := ⟨b, off + j * 4 + 1, none⟩) hbB).trans (hcl (j * 4 + 1) _ (ints_get f1))
      have hd2 := (hb.cell (p := ⟨b, off + j * 4 + 2, none⟩) hbB).trans (hcl (j * 4 + 2) _ (ints_get f2))
      have hd3 := (hb.cell (p := ⟨b, off + j * 4 + 3, none⟩) hbB).trans (hcl (j * 4 + 3) _ (ints_get f3))
      obtain ⟨R, hR⟩ : ∃ R, doS S' x0 x1 x2 x3 = R := ⟨_, rfl⟩
      obtain ⟨cd, hcd⟩ : ∃ cd, doI S' x0 x1 x2 x3 = cd := ⟨_, rfl⟩
      have HDO := hid (fun J T F cj ct cf w h => sDoAct S' x0 x1 x2 x3 J T F cj ct cf w h (by omega) (by omega) (by omega))
      rw [hR, hcd] at HDO
      have hn1 : stTo z xs (j + 1) = R := by rw [stTo, e1, getD_of f0, getD_of f1, getD_of f2, getD_of f3, hR]
      have hn2 : codesTo z xs (j + 1) = L' ++ [cd] := by rw [codesTo, e1, e2, getD_of f0, getD_of f1, getD_of f2, getD_of f3, hcd]
      have H1 := hid hn1
      have H2 := hid hn2
      have hlt' : (j : Int) < (n : Int) := by omega
      clear hcl f0 f1 f2 f3 hR hcd hn1 hn2 e1 e2 ne0
      have b_10 := hb
      have s_10 := b_10.size
      have rj_in := own_off hrj ho (by decide)
      have rj_10 := hrj
      clear hrj
      have rt_in := own_off hrt ho (by decide)
      have rt_10 := hrt
      clear hrt
      have rf_in := own_off hrf ho (by decide)
      have rf_10 := hrf
      clear hrf
      have rc_in := own_off hrc ho (by decide)
      have rc_10 := hrc
      clear hrc
      have r_10 := hr
      clear hr
      have r_lt := r_10.lt
      have cell_r := r_10.cell
      have froz_r := r_10.frozen
      have lt_r := r_10.lt
      have s_10 := ho
      clear ho
      have s_lt := s_10.lt
      have cell_s := s_10.cell
      have froz_s := s_10.frozen
      have lt_s := s_10.lt
      have d0_10 := hd0
      clear hd0
      have lt_d0 : b < wr.heap.size := by omega
      have d1_10 := hd1
      clear hd1
      have lt_d1 : b < wr.heap.size := by omega
      have d2_10 := hd2
      clear hd2
      have lt_d2 : b < wr.heap.size := by omega
      have d3_10 := hd3
      clear hd3
      have lt_d3 : b < wr.heap.size := by omega
      go_upto_region 8 with fail
      go_cut [10, 11] (fun v10 v11 wx => CutA R cd wr v10 v11 wx)
      case first =>
        have gh_10 := hid (Below.refl wr.heap.size wr)
        go_region_held3 (fun w' => w'.cell? ⟨w1.heap.size, 0, none⟩ = some (.int .i64 (S'.z)) ∧ w'.cell? ⟨w1.heap.size, 1, none⟩ = some (.int .i64 (S'.n)) ∧ w'.cell? ⟨w1.heap.size, 2, none⟩ = some (.int .i64 (S'.b)) ∧ w'.cell? ⟨w1.heap.size, 3, none⟩ = some (.slice J1 (S'.js.length) cj1) ∧ w'.cell? ⟨w1.heap.size, 4, none⟩ = some (.slice T1 (S'.ts.length) tc1) ∧ w'.cell? ⟨w1.heap.size, 5, none⟩ = some (.slice F1 (S'.fs.length) cf1) ∧ w'.cell? ⟨b, off + j * 4, none⟩ = some (.int .i64 x0) ∧ w'.cell? ⟨b, off + j * 4 + 1, none⟩ = some (.int .i64 x1) ∧ w'.cell? ⟨b, off + j * 4 + 2, none⟩ = some (.int .i64 x2) ∧ w'.cell? ⟨b, off + j * 4 + 3, none⟩ = some (.int .i64 x3)) ((refine ⟨(Blk.cell (t := 40) (cs := #[.int .i64 (S'.z), .int .i64 (S'.n), .int .i64 (S'.b), .slice J1 (S'.js.length) cj1, .slice T1 (S'.ts.length) tc1, .slice F1 (S'.fs.length) cf1]) ?qs 0), (Blk.cell ?qs 1), (Blk.cell ?qs 2), (Blk.cell ?qs 3), (Blk.cell ?qs 4), (Blk.cell ?qs 5), (by first | ((repeat (first | (with_reducible assumption) | (with_reducible refine cell_drew ?_) | (with_reducible refine cell_alloc ?_ (by first | (dsimp only; omega) | (simp; omega))) | (with_reducible refine cell_far ?_ (by first | (dsimp only; omega) | (simp; omega))))); done) | exact cell_kept d0_10 (by exact belBy) (by dsimp only; omega)), (by first | ((repeat (first | (with_reducible assumption) | (with_reducible refine cell_drew ?_) | (with_reducible refine cell_alloc ?_ (by first | (dsimp only; omega) | (simp; omega))) | (with_reducible refine cell_far ?_ (by first | (dsimp only; omega) | (simp; omega))))); done) | exact cell_kept d1_10 (by exact belBy) (by dsimp only; omega)), (by first | ((repeat (first | (with_reducible assumption) | (with_reducible refine cell_drew ?_) | (with_reducible refine cell_alloc ?_ (by first | (dsimp only; omega) | (simp; omega))) | (with_reducible refine cell_far ?_ (by first | (dsimp only; omega) | (simp; omega))))); done) | exact cell_kept d2_10 (by exact belBy) (by dsimp only; omega)), (by first | ((repeat (first | (with_reducible assumption) | (with_reducible refine cell_drew ?_) | (with_reducible refine cell_alloc ?_ (by first | (dsimp only; omega) | (simp; omega))) | (with_reducible refine cell_far ?_ (by first | (dsimp only; omega) | (simp; omega))))); done) | exact cell_kept d3_10 (by exact belBy) (by dsimp only; omega))⟩; (case qs => (exact blkBy)))) (first | (go_at_call 29; refine calls_forget1 (W := wr) (b0 := wr.heap.size) (t0 := 40) (c0 := #[.int .i64 0, .int .i64 0, .int .i64 0, .slice none 0 0, .slice none 0 0, .slice none 0 0]) ?_ ?_ ?_; (focus exact blkcBy2); (focus (exact belBy)); intro X11 nx_n hX11; have sX11 := hX11.size; have nx_lt := nx_n.lt; refine (HDO.out _ _ _ _ _ _ _ ⟨own_weak (own_below rj_10 hX11) (Nat.zero_le _), own_weak (own_below rt_10 hX11) (Nat.zero_le _), own_weak (own_below rf_10 hX11) (Nat.zero_le _)⟩).mono ?_; rintro e w11 ⟨Nj, nj', Nt, nt', Nf, nf', rfl, nj_11, nt_11, nf_11, hb11⟩; have s11 := hb11.size; have hT11 := hX11.trans (hb11.mono sX11); have b_11 := b_10.trans (hT11.mono (by omega)); have gh_11 := hid (gh_10.out.trans (hT11.mono (by omega))); have rj_11 := own_below rj_10 hT11; have rt_11 := own_below rt_10 hT11; have rf_11 := own_below rf_10 hT11; have rc_11 := own_below rc_10 hT11; have r_11 := Blk.past hT11 r_10; have s_11 := Blk.past hT11 s_10; have d0_11 := cell_kept d0_10 hT11 (by dsimp only; omega); have d1_11 := cell_kept d1_10 hT11 (by dsimp only; omega); have d2_11 := cell_kept d2_10 hT11 (by dsimp only; omega); have d3_11 := cell_kept d3_10 hT11 (by dsimp only; omega); have nx_11 := Blk.past hb11 nx_n; have nj_in := own_in nj_11; have nt_in := own_in nt_11; have nf_in := own_in nf_11; clear gh_10 rj_10 rt_10 rf_10 rc_10 r_10 s_10 d0_10 d1_10 d2_10 d3_10 b_10 cell_r froz_r lt_r cell_s froz_s lt_s lt_d0 lt_d1 lt_d2 lt_d3 nx_n hX11 hT11 hb11; have cell_r := r_11.cell; have froz_r := r_11.frozen; have lt_r := r_11.lt; have cell_s := s_11.cell; have froz_s := s_11.frozen; have lt_s := s_11.lt; have cell_nx := nx_11.cell; have froz_nx := nx_11.frozen; have lt_nx := nx_11.lt; have lt_d0 : b < w11.heap.size := (by omega); have lt_d1 : b < w11.heap.size := (by omega); have lt_d2 : b < w11.heap.size := (by omega); have lt_d3 : b < w11.heap.size := (by omega)) | (go_at_call 29; refine calls_forget0 (W := wr) ?_ ?_; (focus (exact belBy)); intro X11 hX11; have sX11 := hX11.size; refine (HDO.out _ _ _ _ _ _ _ ⟨own_weak (own_below rj_10 hX11) (Nat.zero_le _), own_weak (own_below rt_10 hX11) (Nat.zero_le _), own_weak (own_below rf_10 hX11) (Nat.zero_le _)⟩).mono ?_; rintro e w11 ⟨Nj, nj', Nt, nt', Nf, nf', rfl, nj_11, nt_11, nf_11, hb11⟩; have s11 := hb11.size; have hT11 := hX11.trans (hb11.mono sX11); have b_11 := b_10.trans (hT11.mono (by omega)); have gh_11 := hid (gh_10.out.trans (hT11.mono (by omega))); have rj_11 := own_below rj_10 hT11; have rt_11 := own_below rt_10 hT11; have rf_11 := own_below rf_10 hT11; have rc_11 := own_below rc_10 hT11; have r_11 := Blk.past hT11 r_10; have s_11 := Blk.past hT11 s_10; have d0_11 := cell_kept d0_10 hT11 (by dsimp only; omega); have d1_11 := cell_kept d1_10 hT11 (by dsimp only; omega); have d2_11 := cell_kept d2_10 hT11 (by dsimp only; omega); have d3_11 := cell_kept d3_10 hT11 (by dsimp only; omega); have nj_in := own_in nj_11; have nt_in := own_in nt_11; have nf_in := own_in nf_11; clear gh_10 rj_10 rt_10 rf_10 rc_10 r_10 s_10 d0_10 d1_10 d2_10 d3_10 b_10 cell_r froz_r lt_r cell_s froz_s lt_s lt_d0 lt_d1 lt_d2 lt_d3 hX11 hT11 hb11; have cell_r := r_11.cell; have froz_r := r_11.frozen; have lt_r := r_11.lt; have cell_s := s_11.cell; have froz_s := s_11.frozen; have lt_s := s_11.lt; have lt_d0 : b < w11.heap.size := (by omega); have lt_d1 : b < w11.heap.size := (by omega); have lt_d2 : b < w11.heap.size := (by omega); have lt_d3 : b < w11.heap.size := (by omega)))
        all_goals
          go_wp2_with fail
          go_meet
          first
          | exact ⟨wr.heap.size, Nj, nj', Nt, nt', Nf, nf', rfl, rfl, by first | exact Nat.le_refl _ | omega, by exact blkcBy, ⟨own_weak (base := X11.heap.size) (by repeat (first | (with_reducible assumption) | (with_reducible apply World.ownsRow.drew) | (with_reducible apply own_drewN) | (with_reducible apply World.ownsRow.alloc) | (with_reducible refine own_set ?_ _ _ (by first | omega | (simp; omega) | (dsimp only; omega))))) (by omega), own_weak (base := X11.heap.size) (by repeat (first | (with_reducible assumption) | (with_reducible apply World.ownsRow.drew) | (with_reducible apply own_drewN) | (with_reducible apply World.ownsRow.alloc) | (with_reducible refine own_set ?_ _ _ (by first | omega | (simp; omega) | (dsimp only; omega))))) (by omega), own_weak (base := X11.heap.size) (by repeat (first | (with_reducible assumption) | (with_reducible apply World.ownsRow.drew) | (with_reducible apply own_drewN) | (with_reducible apply World.ownsRow.alloc) | (with_reducible refine own_set ?_ _ _ (by first | omega | (simp; omega) | (dsimp only; omega))))) (by omega)⟩, by have gq := gh_11.out; exact belBy⟩
          | exact ⟨w11.heap.size, Nj, nj', Nt, nt', Nf, nf', rfl, rfl, by first | exact Nat.le_refl _ | omega, by exact blkcBy, ⟨own_weak (base := X11.heap.size) (by repeat (first | (with_reducible assumption) | (with_reducible apply World.ownsRow.drew) | (with_reducible apply own_drewN) | (with_reducible apply World.ownsRow.alloc) | (with_reducible refine own_set ?_ _ _ (by first | omega | (simp; omega) | (dsimp only; omega))))) (by omega), own_weak (base := X11.heap.size) (by repeat (first | (with_reducible assumption) | (with_reducible apply World.ownsRow.drew) | (with_reducible apply own_drewN) | (with_reducible apply World.ownsRow.alloc) | (with_reducible refine own_set ?_ _ _ (by first | omega | (simp; omega) | (dsimp only; omega))))) (by omega), own_weak (base := X11.heap.size) (by repeat (first | (with_reducible assumption) | (with_reducible apply World.ownsRow.drew) | (with_reducible apply own_drewN) | (with_reducible apply World.ownsRow.alloc) | (with_reducible refine own_set ?_ _ _ (by first | omega | (simp; omega) | (dsimp only; omega))))) (by omega)⟩, by have gq := gh_11.out; exact belBy⟩
      case rest =>
        obtain ⟨b_nx, Nj, nj', Nt, nt', Nf, nf', rfl, rfl, nx_ge, nx_12, ⟨nj_12, nt_12, nf_12⟩, hb12⟩ := hcut
        obtain ⟨w12, rfl⟩ : ∃ z : World, z = wc := ⟨_, rfl⟩
        have s12 := hb12.size
        have b_12 := b_10.trans (hb12.mono (by omega))
        have rj_12 := own_below rj_10 hb12
        have rt_12 := own_below rt_10 hb12
        have rf_12 := own_below rf_10 hb12
        have rc_12 := own_below rc_10 hb12
        have r_12 := Blk.past hb12 r_10
        have s_12 := Blk.past hb12 s_10
        have d0_12 := cell_kept d0_10 hb12 (by dsimp only; omega)
        have d1_12 := cell_kept d1_10 hb12 (by dsimp only; omega)
        have d2_12 := cell_kept d2_10 hb12 (by dsimp only; omega)
        have d3_12 := cell_kept d3_10 hb12 (by dsimp only; omega)
        clear rj_10 rt_10 rf_10 rc_10 r_10 s_10 d0_10 d1_10 d2_10 d3_10 b_10 cell_r froz_r lt_r cell_s froz_s lt_s lt_d0 lt_d1 lt_d2 lt_d3 hb12
        have nx_lt := nx_12.lt
        have nj_in := own_off nj_12 nx_12 (by decide)
        have nt_in := own_off nt_12 nx_12 (by decide)
        have nf_in := own_off nf_12 nx_12 (by decide)
        have cell_r := r_12.cell
        have froz_r := r_12.frozen
        have lt_r := r_12.lt
        have cell_s := s_12.cell
        have froz_s := s_12.frozen
        have lt_s := s_12.lt
        have cell_nx := nx_12.cell
        have froz_nx := nx_12.frozen
        have lt_nx := nx_12.lt
        have lt_d0 : b < w12.heap.size := (by omega)
        have lt_d1 : b < w12.heap.size := (by omega)
        have lt_d2 : b < w12.heap.size := (by omega)
        have lt_d3 : b < w12.heap.size := (by omega)
        clear rj_12
        clear rt_12
        clear rf_12
        clear lt_d0
        clear d0_12
        clear lt_d1
        clear d1_12
        clear lt_d2
        clear d2_12
        clear lt_d3
        clear d3_12
        go_upto_region 10 with fail
        refine wp_touch1 (w0 := w12) (L := [w1.heap.size]) (b0 := w1.heap.size) (t0 := 40) (c0 := #[.int .i64 R.z, .int .i64 R.n, .int .i64 R.b, .slice Nj R.js.length nj', .slice Nt R.ts.length nt', .slice Nf R.fs.length nf']) ?_ ?_ ?_
        (focus exact blkcBy2)
        (focus (exact tchBy))
        intro w13 s_13 hX13
        have sX13 := hX13.size
        have b_13 := hX13.below b_12 (by first | (simp; done) | (simp; omega))
        have rc_13 := own_touch' hX13 rc_12 (fun q hq => by have h1 := rc_in q hq; (try have e0 := own_ne_obj rc_12 s_12 (by decide) q hq); simp; omega)
        have nj_13 := own_touch' hX13 nj_12 (fun q hq => by have h1 := nj_in q hq; (try have e0 := own_ne_obj nj_12 s_12 (by decide) q hq); simp; omega)
        have nt_13 := own_touch' hX13 nt_12 (fun q hq => by have h1 := nt_in q hq; (try have e0 := own_ne_obj nt_12 s_12 (by decide) q hq); simp; omega)
        have nf_13 := own_touch' hX13 nf_12 (fun q hq => by have h1 := nf_in q hq; (try have e0 := own_ne_obj nf_12 s_12 (by decide) q hq); simp; omega)
        have r_13 := Blk.touch hX13 r_12 (by first | (simp; done) | (simp; omega))
        have nx_13 := Blk.touch hX13 nx_12 (by first | (simp; done) | (simp; omega))
        clear rc_12 nj_12 nt_12 nf_12 r_12 s_12 nx_12 b_12 cell_r froz_r lt_r cell_s froz_s lt_s cell_nx froz_nx lt_nx hX13
        have cell_r := r_13.cell
        have froz_r := r_13.frozen
        have lt_r := r_13.lt
        have cell_s := s_13.cell
        have froz_s := s_13.frozen
        have lt_s := s_13.lt
        have cell_nx := nx_13.cell
        have froz_nx := nx_13.frozen
        have lt_nx := nx_13.lt
        go_wp2_with (at_builtin; refine wpList_appi rfl _ _ 38 rfl (w.heap.size + 1) 3 (.int .i64 0) 1 8 Tryz.underlying38 infoInt rfl (by decide) _ j _ rfl (rc_13.alloc _) ⟨w13.heap.size, 0, none⟩ 1 1 _ rfl rfl (one_new _ _ _) (one_one _) (by omega) (by decide) (by simp; omega) ?_)
        intro A_rc c_rc w14 rc_14 hg14 li14
        have hg14 := grown_alloc hg14
        try simp only [World.size_alloc] at li14
        have s14 := hg14.size
        have b_14 := gr_below hg14 b_13 (by omega) (fun q hq => by have h1 := rc_in q hq; omega)
        have nj_14 := gr_own hg14 nj_13 (fun q p hq hp => by first | (have h1 := rc_in q hq; have h2 := nj_in p hp; omega) | exact own_ne rc_13 nj_13 (by decide) q p hq hp | exact ne_rc_nj q p hq hp | exact (ne_nj_rc p q hp hq).symm)
        have nt_14 := gr_own hg14 nt_13 (fun q p hq hp => by first | (have h1 := rc_in q hq; have h2 := nt_in p hp; omega) | exact own_ne rc_13 nt_13 (by decide) q p hq hp | exact ne_rc_nt q p hq hp | exact (ne_nt_rc p q hp hq).symm)
        have nf_14 := gr_own hg14 nf_13 (fun q p hq hp => by first | (have h1 := rc_in q hq; have h2 := nf_in p hp; omega) | exact own_ne rc_13 nf_13 (by decide) q p hq hp | exact ne_rc_nf q p hq hp | exact (ne_nf_rc p q hp hq).symm)
        have r_14 := gr_blk hg14 r_13 (fun q hq => by have h1 := rc_in q hq; omega)
        have s_14 := gr_blk hg14 s_13 (fun q hq => by have h1 := rc_in q hq; omega)
        have nx_14 := gr_blk hg14 nx_13 (fun q hq => by have h1 := rc_in q hq; omega)
        have rc_ix : ∀ q, (Value.slice A_rc (j + 1) c_rc).ownBlock = some q → q < wr.heap.size ∨ w13.heap.size ≤ q := (fun q hq => by have h3 := (own_in rc_14 q hq).2; rcases li14 q hq with h | h; (have h1 := rc_in q h; omega); omega)
        clear rc_13 nj_13 nt_13 nf_13 r_13 s_13 nx_13 b_13 cell_r froz_r lt_r cell_s froz_s lt_s cell_nx froz_nx lt_nx hg14 li14 rc_in
        have rc_in := rc_ix
        clear rc_ix
        have cell_r := r_14.cell
        have froz_r := r_14.frozen
        have lt_r := r_14.lt
        have cell_s := s_14.cell
        have froz_s := s_14.frozen
        have lt_s := s_14.lt
        have cell_nx := nx_14.cell
        have froz_nx := nx_14.frozen
        have lt_nx := nx_14.lt
        rw [← ints_snoc] at rc_14
        have K1 := hid nj_14
        have K2 := hid nt_14
        have K3 := hid nf_14
        have K4 := hid rc_14
        have K5 := hid r_14
        have K6 := hid s_14
        have K7 := hid b_14
        have KN : ∀ q p, (Value.slice Nf R.fs.length nf').ownBlock = some q → (Value.slice A_rc (j + 1) c_rc).ownBlock = some p → q ≠ p := fun q p hq hp => (by have h1 := nf_in q hq; have h2 := rc_in p hp; omega)
        clear nj_14 nt_14 nf_14 rc_14 r_14 s_14 b_14 cell_r froz_r cell_s froz_s
        go_wp2
        go_roundw
        case rel => exact ⟨j + 1, R, L' ++ [cd], Nj, nj', Nt, nt', Nf, nf', A_rc, c_rc, by omega, by go_num, rfl, H1.out, H2.out, KN, own_weak (by have h := K1.out; exact ownBy) (by omega), own_weak (by have h := K2.out; exact ownBy) (by omega), own_weak (by have h := K3.out; exact ownBy) (by omega), by have h := K4.out; exact ownBy, by have h := K5.out; exact blkcBy, by have h := K6.out; exact blkcBy, by have h := K7.out; exact belBy⟩
        case measure => simp [intOf]; omega
    · obtain rfl : j = n := by omega
      have hl2 := codesTo_length z xs j
      rw [e2] at hl2
      have E := hid (And.intro e1 e2)
      have HN0 := hid ne0
      have HL2 := hid hl2
      clear e1 e2 ne0 hl2
      have b_10 := hb
      have s_10 := b_10.size
      have rj_in := own_off hrj ho (by decide)
      have rj_10 := hrj
      clear hrj
      have rt_in := own_off hrt ho (by decide)
      have rt_10 := hrt
      clear hrt
      have rf_in := own_off hrf ho (by decide)
      have rf_10 := hrf
      clear hrf
      have rc_in := own_off hrc ho (by decide)
      have rc_10 := hrc
      clear hrc
      have r_10 := hr
      clear hr
      have r_lt := r_10.lt
      have cell_r := r_10.cell
      have froz_r := r_10.frozen
      have lt_r := r_10.lt
      have s_10 := ho
      clear ho
      have s_lt := s_10.lt
      have cell_s := s_10.cell
      have froz_s := s_10.frozen
      have lt_s := s_10.lt
      have K1 := hid rj_10
      have K2 := hid rt_10
      have K3 := hid rf_10
      have K4 := hid rc_10
      have K7 := hid b_10
      clear rj_10 rt_10 rf_10 rc_10 b_10
      go_wp2_with fail
      ((try simp only [Exit.inBlock, Exit.then]); apply bodyPost_ret0; focus ((try simp only [results, Tryz.results9]); (try go_simp); (try rfl)))
      obtain ⟨rfl, rfl⟩ := E.out
      refine ⟨J1, cj1, T1, tc1, F1, cf1, G, cg, ?_, ?_, ?_, ?_, ?_, ?_, ?_⟩
      · rw [HL2.out]; exact HN0.out
      · rw [HL2.out]
      · refine own_weak (base := w1.heap.size) ?_ (by omega)
        have h := K1.out
        exact ownBy
      · refine own_weak (base := w1.heap.size) ?_ (by omega)
        have h := K2.out
        exact ownBy
      · refine own_weak (base := w1.heap.size) ?_ (by omega)
        have h := K3.out
        exact ownBy
      · rw [HL2.out]
        refine own_weak (base := (w.heap.size + 1)) ?_ (by omega)
        have h := K4.out
        exact ownBy
      · have hb := K7.out
        exact belBy

set_option maxRecDepth 100000 in
set_option maxHeartbeats 3200000 in
theorem iRunActsNo (z : Int) (A : Option Addr) (c n : Nat) (w : World) (h : raB z n = false) :
    Calls Tryz.prog 25 #[.int .i64 z, .slice A n c] w (GivesRun w (newSV 0) []) := by
  have HN := hid (fun w => iSchedNew z w)
  unfold raB at h
  cases hz : inB z 1 1000
  · rw [hz, pick_no] at HN
    clear h hz
    go_enter Tryz.func25, Tryz.ntmps25
    have b_0 := (Below.refl w.heap.size w)
    have s_0 := b_0.size
    go_wp2_with fail
    refine calls_forget1 (W := w) (b0 := w.heap.size) (t0 := 40) (c0 := #[.int .i64 0, .int .i64 0, .int .i64 0, .slice none 0 0, .slice none 0 0, .slice none 0 0]) ?_ ?_ ?_
    (focus exact blkcBy2)
    (focus (exact belBy))
    intro X1 r_n hX1
    have sX1 := hX1.size
    have r_lt := r_n.lt
    refine (HN.out _).mono ?_
    rintro e w1 ⟨rfl, hb1⟩
    have s1 := hb1.size
    have hT1 := hX1.trans (hb1.mono sX1)
    have b_1 := b_0.trans (hT1.mono (by omega))
    have r_1 := Blk.past hb1 r_n
    clear b_0 r_n hX1 hT1 hb1
    have cell_r := r_1.cell
    have froz_r := r_1.frozen
    have lt_r := r_1.lt
    go_upto_region 3 with fail
    refine wp_forget0 (w0 := w1) (B := w1.heap.size) ?_ ?_
    (focus (exact belBy))
    intro w2 hX2
    have sX2 := hX2.size
    have b_2 := b_1.trans (hX2.mono (by omega))
    have r_2 := Blk.past hX2 r_1
    clear r_1 b_1 cell_r froz_r lt_r hX2
    have cell_r := r_2.cell
    have froz_r := r_2.frozen
    have lt_r := r_2.lt
    go_wp2_with fail
    ((try simp only [Exit.inBlock, Exit.then]); apply bodyPost_ret0; focus ((try simp only [results, Tryz.results25]); (try go_simp); (try rfl)))
    refine ⟨none, 0, none, 0, none, 0, none, 0, fun q p hq => (by cases hq), rfl, World.ownsRow_nil _ _ _ _, World.ownsRow_nil _ _ _ _, World.ownsRow_nil _ _ _ _, World.ownsRow_nil _ _ _ _, ?_⟩
    exact belBy
  · rw [hz, pick_yes] at HN
    have hg : decide (60 < (n : Int)) = true := by
      rw [hz] at h
      simp at h
      simp
      omega
    clear h hz
    go_enter Tryz.func25, Tryz.ntmps25
    have b_0 := (Below.refl w.heap.size w)
    have s_0 := b_0.size
    go_wp2_with fail
    refine calls_forget1 (W := w) (b0 := w.heap.size) (t0 := 40) (c0 := #[.int .i64 0, .int .i64 0, .int .i64 0, .slice none 0 0, .slice none 0 0, .slice none 0 0]) ?_ ?_ ?_
    (focus exact blkcBy2)
    (focus (exact belBy))
    intro X1 r_n hX1
    have sX1 := hX1.size
    have r_lt := r_n.lt
    refine (HN.out _).mono ?_
    rintro e w1 ⟨rfl, hb1⟩
    have s1 := hb1.size
    have hT1 := hX1.trans (hb1.mono sX1)
    have b_1 := b_0.trans (hT1.mono (by omega))
    have r_1 := Blk.past hb1 r_n
    clear b_0 r_n hX1 hT1 hb1
    have cell_r := r_1.cell
    have froz_r := r_1.frozen
    have lt_r := r_1.lt
    go_upto_region 3 with fail
    refine wp_forget0 (w0 := w1) (B := w1.heap.size) ?_ ?_
    (focus (exact belBy))
    intro w2 hX2
    have sX2 := hX2.size
    have b_2 := b_1.trans (hX2.mono (by omega))
    have r_2 := Blk.past hX2 r_1
    clear r_1 b_1 cell_r froz_r lt_r hX2
    have cell_r := r_2.cell
    have froz_r := r_2.frozen
    have lt_r := r_2.lt
    go_wp2_with fail
    ((try simp only [Exit.inBlock, Exit.then]); apply bodyPost_ret0; focus ((try simp only [results, Tryz.results25]); (try go_simp); (try rfl)))
    refine ⟨none, 0, none, 0, none, 0, none, 0, fun q p hq => (by cases hq), rfl, World.ownsRow_nil _ _ _ _, World.ownsRow_nil _ _ _ _, World.ownsRow_nil _ _ _ _, World.ownsRow_nil _ _ _ _, ?_⟩
    exact belBy
theorem iRunActs (z : Int) (A : Option Addr) (c n : Nat) (xs : List Int) (w : World) (hc : Cells w w.heap.size A (ints xs)) (hl : xs.length = n * 4) :
    Calls Tryz.prog 25 #[.int .i64 z, .slice A n c] w (GivesRun w (raS z xs n) (raL z xs n)) := by
  unfold raS raL
  cases h : raB z n
  · exact iRunActsNo z A c n w h
  · unfold raB at h
    simp only [Bool.and_eq_true, decide_eq_true_eq] at h
    exact iRunActsYes z A c n xs w hc hl h.1 h.2
set_option maxRecDepth 100000 in
set_option maxHeartbeats 3200000 in
theorem sRunActsNo (z : Int) (A : Option Addr) (c n : Nat) (w : World) (h : raB z n = false) :
    Calls Tryz.prog 9 #[.int .i64 z, .slice A n c] w (GivesRun w (newSV 0) []) := by
  have HN := hid (fun w => sSchedNew z w)
  unfold raB at h
  cases hz : inB z 1 1000
  · rw [hz, pick_no] at HN
    clear h hz
    go_enter Tryz.func9, Tryz.ntmps9
    go_upto_region 2 with fail
    obtain ⟨W1, hW1⟩ : ∃ W1, W1 = (w.alloc (.cells #[.int .i64 0, .int .i64 0, .int .i64 0, .slice none 0 0, .slice none 0 0, .slice none 0 0] 40)).alloc (.cells #[] 3) := ⟨_, rfl⟩
    have ho : W1.ownsRow (w.heap.size + 1) 3 1 (.slice (some ⟨w.heap.size + 1, 0, none⟩) 0 0) 0 (ints []) := by rw [hW1]; exact own_lit (size := 1) #[] 0 (by simp) (by simp) (Nat.zero_le _) rfl
    have hr : Blk W1 w.heap.size 40 #[.int .i64 0, .int .i64 0, .int .i64 0, .slice none 0 0, .slice none 0 0, .slice none 0 0] := by rw [hW1]; exact blkcBy
    have hb1 : Below w.heap.size w W1 := by rw [hW1]; exact belBy
    rw [← hW1]
    clear hW1
    have b_0 := hb1
    have s_0 := b_0.size
    have o_in := own_in ho
    have o_0 := ho
    clear ho
    have r_0 := hr
    clear hr
    have r_lt := r_0.lt
    have cell_r := r_0.cell
    have froz_r := r_0.frozen
    have lt_r := r_0.lt
    go_wp2_with fail
    refine calls_forget0 (W := W1) ?_ ?_
    (focus (exact belBy))
    intro X1 hX1
    have sX1 := hX1.size
    refine (HN.out _).mono ?_
    rintro e w1 ⟨rfl, hb1⟩
    have s1 := hb1.size
    have hT1 := hX1.trans (hb1.mono sX1)
    have b_1 := b_0.trans (hT1.mono (by omega))
    have o_1 := own_below o_0 hT1
    have r_1 := Blk.past hT1 r_0
    clear o_0 r_0 b_0 cell_r froz_r lt_r hX1 hT1 hb1
    have cell_r := r_1.cell
    have froz_r := r_1.frozen
    have lt_r := r_1.lt
    go_upto_region 4 with fail
    refine wp_forget0 (w0 := w1) (B := w1.heap.size) ?_ ?_
    (focus (exact belBy))
    intro w2 hX2
    have sX2 := hX2.size
    have b_2 := b_1.trans (hX2.mono (by omega))
    have o_2 := own_below o_1 hX2
    have r_2 := Blk.past hX2 r_1
    clear o_1 r_1 b_1 cell_r froz_r lt_r hX2
    have cell_r := r_2.cell
    have froz_r := r_2.frozen
    have lt_r := r_2.lt
    have HO := hid o_2
    clear o_2
    go_wp2_with fail
    ((try simp only [Exit.inBlock, Exit.then]); apply bodyPost_ret0; focus ((try simp only [results, Tryz.results9]); (try go_simp); (try rfl)))
    refine ⟨none, 0, none, 0, none, 0, some ⟨w.heap.size + 1, 0, none⟩, 0, fun q p hq => (by cases hq), rfl, World.ownsRow_nil _ _ _ _, World.ownsRow_nil _ _ _ _, World.ownsRow_nil _ _ _ _, ?_, ?_⟩
    · refine own_weak (base := w.heap.size + 1) ?_ (by omega)
      have h : w2.ownsRow (w.heap.size + 1) 3 1 (.slice (some ⟨w.heap.size + 1, 0, none⟩) ([] : List Int).length 0) ([] : List Int).length (ints []) := HO.out
      exact ownBy
    · exact belBy
  · rw [hz, pick_yes] at HN
    have hg : decide (60 < (n : Int)) = true := by
      rw [hz] at h
      simp at h
      simp
      omega
    clear h hz
    go_enter Tryz.func9, Tryz.ntmps9
    go_upto_region 2 with fail
    obtain ⟨W1, hW1⟩ : ∃ W1, W1 = (w.alloc (.cells #[.int .i64 0, .int .i64 0, .int .i64 0, .slice none 0 0, .slice none 0 0, .slice none 0 0] 40)).alloc (.cells #[] 3) := ⟨_, rfl⟩
    have ho : W1.ownsRow (w.heap.size + 1) 3 1 (.slice (some ⟨w.heap.size + 1, 0, none⟩) 0 0) 0 (ints []) := by rw [hW1]; exact own_lit (size := 1) #[] 0 (by simp) (by simp) (Nat.zero_le _) rfl
    have hr : Blk W1 w.heap.size 40 #[.int .i64 0, .int .i64 0, .int .i64 0, .slice none 0 0, .slice none 0 0, .slice none 0 0] := by rw [hW1]; exact blkcBy
    have hb1 : Below w.heap.size w W1 := by rw [hW1]; exact belBy
    rw [← hW1]
    clear hW1
    have b_0 := hb1
    have s_0 := b_0.size
    have o_in := own_in ho
    have o_0 := ho
    clear ho
    have r_0 := hr
    clear hr
    have r_lt := r_0.lt
    have cell_r := r_0.cell
    have froz_r := r_0.frozen
    have lt_r := r_0.lt
    go_wp2_with fail
    refine calls_forget0 (W := W1) ?_ ?_
    (focus (exact belBy))
    intro X1 hX1
    have sX1 := hX1.size
    refine (HN.out _).mono ?_
    rintro e w1 ⟨rfl, hb1⟩
    have s1 := hb1.size
    have hT1 := hX1.trans (hb1.mono sX1)
    have b_1 := b_0.trans (hT1.mono (by omega))
    have o_1 := own_below o_0 hT1
    have r_1 := Blk.past hT1 r_0
    clear o_0 r_0 b_0 cell_r froz_r lt_r hX1 hT1 hb1
    have cell_r := r_1.cell
    have froz_r := r_1.frozen
    have lt_r := r_1.lt
    go_upto_region 4 with fail
    refine wp_forget0 (w0 := w1) (B := w1.heap.size) ?_ ?_
    (focus (exact belBy))
    intro w2 hX2
    have sX2 := hX2.size
    have b_2 := b_1.trans (hX2.mono (by omega))
    have o_2 := own_below o_1 hX2
    have r_2 := Blk.past hX2 r_1
    clear o_1 r_1 b_1 cell_r froz_r lt_r hX2
    have cell_r := r_2.cell
    have froz_r := r_2.frozen
    have lt_r := r_2.lt
    have HO := hid o_2
    clear o_2
    go_wp2_with fail
    ((try simp only [Exit.inBlock, Exit.then]); apply bodyPost_ret0; focus ((try simp only [results, Tryz.results9]); (try go_simp); (try rfl)))
    refine ⟨none, 0, none, 0, none, 0, some ⟨w.heap.size + 1, 0, none⟩, 0, fun q p hq => (by cases hq), rfl, World.ownsRow_nil _ _ _ _, World.ownsRow_nil _ _ _ _, World.ownsRow_nil _ _ _ _, ?_, ?_⟩
    · refine own_weak (base := w.heap.size + 1) ?_ (by omega)
      have h : w2.ownsRow (w.heap.size + 1) 3 1 (.slice (some ⟨w.heap.size + 1, 0, none⟩) ([] : List Int).length 0) ([] : List Int).length (ints []) := HO.out
      exact ownBy
    · exact belBy
theorem sRunActs (z : Int) (A : Option Addr) (c n : Nat) (xs : List Int) (w : World) (hc : Cells w w.heap.size A (ints xs)) (hl : xs.length = n * 4) :
    Calls Tryz.prog 9 #[.int .i64 z, .slice A n c] w (GivesRun w (raS z xs n) (raL z xs n)) := by
  unfold raS raL
  cases h : raB z n
  · exact sRunActsNo z A c n w h
  · unfold raB at h
    simp only [Bool.and_eq_true, decide_eq_true_eq] at h
    exact sRunActsYes z A c n xs w hc hl h.1 h.2
end Go.Proofs.YtjknadnknainbaaGreatDoor
