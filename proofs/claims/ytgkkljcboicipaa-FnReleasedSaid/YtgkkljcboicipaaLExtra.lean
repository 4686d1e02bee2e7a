/- The law that an additional message is attributed to its sender (FnExtraMessage). No conditions. -/
import Derived.Test.YtgkkljcboicipaaLBlamed
set_option linter.unusedVariables false
namespace Go.Proofs.Ytgkkljcboicipaa
open Go.RowKit Go.ChangeShapes Go.WideShapes Go.ChangeAt

theorem news_own {w : World} {base e size n c g : Nat} {xs : List Value} (h : w.ownsRow base e size (.slice (some ⟨g, 0, none⟩) n c) n xs) (hn : 0 < n) :
    ∀ (j : Nat) (u : Value), xs[j]? = some u → w.cell? ((⟨g, 0, none⟩ : Addr).add j) = some u := fun j u hu => by
  have e : (⟨g, 0, none⟩ : Addr).add j = ⟨g, j, none⟩ := by simp [Addr.add]; omega
  rw [e]
  exact (own_cells h hn).2 j u hu
theorem news_blk {w : World} {b t : Nat} {cs : List Value} (h : Blk w b t cs.toArray) : ∀ (j : Nat) (u : Value), cs[j]? = some u → w.cell? ((⟨b, 0, none⟩ : Addr).add j) = some u := fun j u hu => by
  have e : (⟨b, 0, none⟩ : Addr).add j = ⟨b, j, none⟩ := by simp [Addr.add]; omega
  rw [e, h.cell j]
  simpa using hu
theorem cells_blk {w : World} {b t : Nat} {cs : Array Value} (h : Blk w b t cs) : Cells w w.heap.size (some ⟨b, 0, none⟩) cs.toList := fun _ =>
  ⟨b, 0, rfl, h.lt, fun i v hv => by
    rw [Nat.zero_add, h.cell i]
    simpa using hv⟩
attribute [local go_sem ↓] run_equalIn_msg
theorem run_eqGuard_msgE (w : World) (x y : Operand) (xs ys : Array Value) : (eqGuard .eql 23 x y (.agg xs) (.agg ys)).run Try.prog w = .ok () w := run_eqGuard_agg w _ _ _ _ _ _ (by kernel_rfl)
attribute [local go_sem] run_eqGuard_msgE
theorem iExp_zero (p s v : Int) (w : World) (h : msgB p s ((0 : Nat) : Int) ((0 : Nat) : Int) = true) (hv : belowI s ((0 : Nat) : Int) p = v) :
    Calls Try.prog 12 #[.int .i64 p, .int .i64 s, .int .i64 0, .int .i64 0] w fun e w' =>
      e = .returned (.tuple #[.agg #[.int .i64 0, .int .i64 0, .int .i64 v], .bool true]) ∧ Below w.heap.size w w' := by
  subst hv
  exact iExp_ok p s 0 0 w h
namespace extra
set_option maxRecDepth 100000 in
set_option maxHeartbeats 6400000 in
theorem walk (A : Option Addr) (c : Nat) (bs : List Int) (w : World) (hb : Bytes w w.heap.size A bs) :
    Calls Try.prog 5 #[.slice A bs.length c] w fun e w' => e = .returned (.bool true) ∧ Below w.heap.size w w' := by
  have hl := hb.len
  have HB := hid hb
  clear hb
  by_cases h1 : (1048576 : Int) < (bs.length : Int)
  · go_enter Try.func5, Try.ntmps5
    go_wp2_with (go_at_call 14; refine (big_any _ _ _ _ hl).mono ?_; rintro e w' ⟨rfl, rfl⟩)
    go_ret
    exact ⟨rfl, Below.refl _ _⟩
  go_enter Try.func5, Try.ntmps5
  go_wp2_with fail
  refine (big_any _ _ _ _ hl).mono ?_
  rintro e w' ⟨rfl, rfl⟩
  go_wp2_with fail
  refine (protocol_any _ _ _ _ HB.out).mono ?_
  rintro e w0 ⟨p, r, xs, A', c', hf, hr1, hr6, hx1, hx4, hws, he, hown, hb0⟩
  obtain ⟨R, rfl⟩ := Int.eq_ofNat_of_zero_le (show 0 ≤ r by omega)
  obtain ⟨hp0, hp1⟩ := field_range hf
  have hm := may_proto (R := R) hf (by omega) hx1 hx4 hws
  have hon := hon_yes hm
  obtain ⟨L, hLx⟩ : ∃ L, xs.length = L := ⟨_, rfl⟩
  have hat := fun (q : Nat) (hq : q < R * xs.length) => honTo_at (p := p) (K := R) hx1 hq
  rw [hLx] at he hown hx1 hx4 hon hat
  subst he
  obtain ⟨N, hN⟩ : ∃ N, R * L = N := ⟨_, rfl⟩
  obtain ⟨hs, hhs⟩ : ∃ hs, honTo p xs R = hs := ⟨_, rfl⟩
  have hNb : 1 ≤ N ∧ N ≤ 24 := by
    subst hN
    exact ⟨Nat.mul_le_mul (show 1 ≤ R by omega) hx1, Nat.mul_le_mul (show R ≤ 6 by omega) hx4⟩
  have hHL : hs.length = N * 3 := by rw [← hhs, honTo_length, hLx, hN]
  rw [hhs, hN] at hat
  have HAT := hid hat
  have HLX := hid hLx
  have HN := hid (hon.1.trans (by rw [show (R : Int).toNat = R from rfl, hN]) : honN p xs R = N)
  have HH := hid (hon.2.trans (by rw [show (R : Int).toNat = R from rfl, hhs]) : honL p xs R = hs)
  have HL := hid hHL
  have HSELF := hid (by rw [blameI_yes hm, HN.out, HH.out, blame_self] : blameI p xs R hs N = -1)
  have HBY := hid (fun (ms : List Int) (n : Nat) => (by rw [blameI_yes hm, HN.out, HH.out] : blameI p xs R ms n = blameAt ms hs n N))
  have HW := hid hws
  have HF := hid hf
  have hmul : (R : Int) * (L : Int) = (N : Int) := by rw [← hN]; simp
  have HMUL := hid hmul
  clear hm hon hN hhs hHL hmul hf hws hat hLx
  go_wp2_with fail
  refine (places_any _ _ _ _ ((HB.out.step hb0).more hb0.size)).mono ?_
  rintro e wb ⟨ps, hlen, hsm, Ap, cp, he, hop, hb1⟩
  rw [hlen] at he hop
  subst he
  have hwd := own_below hown hb1
  have hbb := hb0.trans (hb1.mono hb0.size)
  have zw := hbb.size
  have hps := And.intro hlen hsm
  have HPS := hid hps
  clear hown hb0 hb1 hlen hsm hps
  have b_0 := hbb
  have s_0 := b_0.size
  have wd_in := own_in hwd
  have wd_0 := hwd
  clear hwd
  have pl_in := own_in hop
  have pl_0 := hop
  clear hop
  go_wp2_with fail
  refine calls_forget0 (W := wb) ?_ ?_
  (focus (repeat (first | (with_reducible exact Below.refl _ _) | (with_reducible refine Below.trans ?_ (Below.mono (by assumption) (by first | omega | (simp; done) | (simp; omega) | (simp [*]; done)))) | (with_reducible refine Below.alloc ?_ (by first | omega | (simp; done) | (simp; omega) | (simp [*]; done)) _) | (with_reducible refine Below.setCell ?_ (by first | omega | (simp; done) | (simp; omega) | (simp [*]; done)) _) | (with_reducible refine Below.drew ?_) | (with_reducible refine below_drewN ?_))))
  intro X1 hX1
  have sX1 := hX1.size
  refine (iHon_at _ _ _ _ _ _ _ _ _ HLX.out HN.out HH.out (Cells.of_own (own_below wd_0 hX1)) (by omega)).mono ?_
  rintro e w1 ⟨Am, cm, rfl, m_1, hb1⟩
  have s1 := hb1.size
  have hT1 := hX1.trans (hb1.mono sX1)
  have b_1 := b_0.trans (hT1.mono (by omega))
  have wd_1 := own_below wd_0 hT1
  have pl_1 := own_below pl_0 hT1
  have m_in := own_in m_1
  clear wd_0 pl_0 b_0 hX1 hT1 hb1
  obtain ⟨gm, rfl, hgm0, hgm1, _⟩ := own_at m_1 (by omega)
  obtain ⟨gp, rfl, hgp0, hgp1, hpc⟩ := own_at pl_1 (by omega)
  obtain ⟨x0, e0⟩ : ∃ x, ps[0]? = some x := ⟨_, List.getElem?_eq_getElem (by have := HPS.out.1; omega)⟩
  obtain ⟨x1, e1⟩ : ∃ x, ps[1]? = some x := ⟨_, List.getElem?_eq_getElem (by have := HPS.out.1; omega)⟩
  obtain ⟨p0, q0⟩ := HPS.out.2 x0 (List.mem_of_getElem? e0)
  obtain ⟨p1, q1⟩ := HPS.out.2 x1 (List.mem_of_getElem? e1)
  have hf0 := hpc 0 _ (ints_get e0)
  have hf1 := hpc 1 _ (ints_get e1)
  clear hpc e0 e1
  obtain ⟨ff, hff⟩ : ∃ ff, x0.tmod 5 = ff := ⟨_, rfl⟩
  obtain ⟨vv, hvv⟩ : ∃ vv, x1.tmod p = vv := ⟨_, rfl⟩
  have hp0' : ¬ (p = 0) := by omega
  go_upto_region 6 with fail
  have HM := hid m_1
  go_cut [8] (fun v8 wx => ∃ A8 c8, v8 = .slice A8 (N + 1) c8 ∧ wx.ownsRow w1.heap.size 23 3 (.slice A8 (N + 1) c8) (N + 1) (ints (hs ++ [ff, 0, vv])) ∧ Below w1.heap.size w1 wx)
  case first =>
    have hgl : (gm : Nat) < w1.heap.size := by omega
    go_region_held3 (fun w' => w'.cell? ⟨gp, 0, none⟩ = some (.int .i64 x0) ∧ w'.cell? ⟨gp, 1, none⟩ = some (.int .i64 x1)) (refine ⟨cell_kept hf0 ?_ hgp1, cell_kept hf1 ?_ hgp1⟩ <;> (first | (exact HB6.out) | ((try have hb5 := HB5.out); (repeat (first | (with_reducible exact Below.refl _ _) | (with_reducible refine Below.trans ?_ (Below.mono (by assumption) (by first | omega | (simp; done) | (simp; omega) | (simp [*]; done)))) | (with_reducible refine Below.alloc ?_ (by first | omega | (simp; done) | (simp; omega) | (simp [*]; done)) _) | (with_reducible refine Below.setCell ?_ (by first | omega | (simp; done) | (simp; omega) | (simp [*]; done)) _) | (with_reducible refine Below.drew ?_) | (with_reducible refine below_drewN ?_))); done))) (first | (refine step_app _ rfl (.tmp 25) (.tmp 26) 34 rfl w1.heap.size 23 (.agg #[.int .i64 0, .int .i64 0, .int .i64 0]) 3 24 Try.underlying34 infoMsg rfl (by decide) _ 0 [] rfl ?_ ⟨gm, 0, none⟩ N cm (ints hs) rfl ?_ ?_ (ints_one hs) (by omega) (by decide) ?_ ?_; (focus (repeat (first | (with_reducible assumption) | (exact own_lit (size := 3) #[] 0 (by first | rfl | (simp; done)) (by first | exact Nat.le_refl _ | (simp; done) | (simp; omega)) (Nat.zero_le _) rfl) | (with_reducible apply World.ownsRow.alloc) | (with_reducible apply World.ownsRow.drew)))); (focus (rw [ints_length]; exact HL.out)); (focus (have hm0 := HM.out; exact news_own (e := 23) (size := 3) (c := cm) (n := N) (base := X1.heap.size) (by repeat (first | (with_reducible assumption) | (with_reducible apply World.ownsRow.drew) | (with_reducible apply own_drewN) | (with_reducible apply World.ownsRow.alloc) | (with_reducible refine own_set ?_ _ _ (by first | omega | (simp; omega) | (dsimp only; omega))))) (by omega))); (focus (first | omega | (simp; done) | (simp; omega))); intro A5 c5 w5 ho5 hg5; simp only [Nat.zero_add, List.nil_append] at ho5; have hb5 := gr_below hg5 (w0 := w1) (b := w1.heap.size) (by repeat (first | (with_reducible exact Below.refl _ _) | (with_reducible refine Below.trans ?_ (Below.mono (by assumption) (by first | omega | (simp; done) | (simp; omega) | (simp [*]; done)))) | (with_reducible refine Below.alloc ?_ (by first | omega | (simp; done) | (simp; omega) | (simp [*]; done)) _) | (with_reducible refine Below.setCell ?_ (by first | omega | (simp; done) | (simp; omega) | (simp [*]; done)) _) | (with_reducible refine Below.drew ?_) | (with_reducible refine below_drewN ?_))) (by (first | omega | (simp; done) | (simp; omega))) (fun q hq => by have h1 := own_here q hq; (first | omega | (simp at h1; omega))); have HK5 := hid (fun (b t : Nat) (cs : Array Value) (h : Blk _ b t cs) (hne : _) => gr_blk hg5 h (b := b) hne); have z5 := hg5.size; (try simp at z5); have HO5 := hid ho5; have HB5 := hid hb5; have zb5 := hb5.size; clear ho5 hg5 hb5; simp only [Nat.zero_add]) | (refine step_app _ rfl (.tmp 27) (.tmp 38) 34 rfl w1.heap.size 23 (.agg #[.int .i64 0, .int .i64 0, .int .i64 0]) 3 24 Try.underlying34 infoMsg rfl (by decide) _ N (ints hs) rfl ?_ ⟨w5.heap.size, 0, none⟩ 1 1 (ints [ff, 0, vv]) rfl rfl ?_ (ints_one _) (by omega) (by decide) ?_ ?_; (focus (first | exact HO5.out | exact HO5.out.alloc _ | exact HO5.out.drew)); (focus (first | exact news_blk (t := 23) (Blk.new (by first | rfl | (simp; done))) | exact news_blk (t := 23) (HK5.out _ _ _ (by (first | ((repeat (first | (with_reducible assumption) | (with_reducible apply Blk.drew) | (with_reducible apply Blk.drewN) | (with_reducible apply Blk.new; first | rfl | (simp; done)) | (with_reducible apply Blk.alloc) | (with_reducible apply Blk.set_) | (with_reducible apply Blk.past; focus assumption) | (with_reducible apply Blk.far; focus (first | (simp; done) | (simp; omega) | (dsimp only; omega))))); done) | (apply Blk.cast; (case h => (repeat (first | (with_reducible assumption) | (with_reducible apply Blk.drew) | (with_reducible apply Blk.drewN) | (with_reducible apply Blk.new; first | rfl | (simp; done)) | (with_reducible apply Blk.alloc) | (with_reducible apply Blk.set_) | (with_reducible apply Blk.past; focus assumption) | (with_reducible apply Blk.far; focus (first | (simp; done) | (simp; omega) | (dsimp only; omega)))))); (case e => rfl)))) (fun q hq => by have h1 := own_here q hq; (first | omega | (simp at h1; omega)))))); (focus (first | omega | (simp; done) | (simp; omega))); intro A6 c6 w6 ho6 hg6; have hb6 := gr_below hg6 (w0 := w1) (b := w1.heap.size) (by (have hb5 := HB5.out); repeat (first | (with_reducible exact Below.refl _ _) | (with_reducible refine Below.trans ?_ (Below.mono (by assumption) (by first | omega | (simp; done) | (simp; omega) | (simp [*]; done)))) | (with_reducible refine Below.alloc ?_ (by first | omega | (simp; done) | (simp; omega) | (simp [*]; done)) _) | (with_reducible refine Below.setCell ?_ (by first | omega | (simp; done) | (simp; omega) | (simp [*]; done)) _) | (with_reducible refine Below.drew ?_) | (with_reducible refine below_drewN ?_))) (by (first | omega | (simp; done) | (simp; omega))) (fun q hq => (own_in HO5.out q hq).1); rw [← ints_append] at ho6; have HO6 := hid ho6; have HB6 := hid hb6; clear ho6 hg6 hb6) | (refine step_app _ rfl (.tmp 27) (.tmp 38) 34 rfl w1.heap.size 23 (.agg #[.int .i64 0, .int .i64 0, .int .i64 0]) 3 24 Try.underlying34 infoMsg rfl (by decide) _ N (ints hs) rfl ?_ ⟨w1.heap.size + 1, 0, none⟩ 1 1 (ints [ff, 0, vv]) rfl rfl ?_ (ints_one _) (by omega) (by decide) ?_ ?_; (focus (first | exact HO5.out | exact HO5.out.alloc _ | exact HO5.out.drew)); (focus (first | exact news_blk (t := 23) (Blk.new (by first | rfl | (simp; done))) | exact news_blk (t := 23) (HK5.out _ _ _ (by (first | ((repeat (first | (with_reducible assumption) | (with_reducible apply Blk.drew) | (with_reducible apply Blk.drewN) | (with_reducible apply Blk.new; first | rfl | (simp; done)) | (with_reducible apply Blk.alloc) | (with_reducible apply Blk.set_) | (with_reducible apply Blk.past; focus assumption) | (with_reducible apply Blk.far; focus (first | (simp; done) | (simp; omega) | (dsimp only; omega))))); done) | (apply Blk.cast; (case h => (repeat (first | (with_reducible assumption) | (with_reducible apply Blk.drew) | (with_reducible apply Blk.drewN) | (with_reducible apply Blk.new; first | rfl | (simp; done)) | (with_reducible apply Blk.alloc) | (with_reducible apply Blk.set_) | (with_reducible apply Blk.past; focus assumption) | (with_reducible apply Blk.far; focus (first | (simp; done) | (simp; omega) | (dsimp only; omega)))))); (case e => rfl)))) (fun q hq => by have h1 := own_here q hq; (first | omega | (simp at h1; omega)))))); (focus (first | omega | (simp; done) | (simp; omega))); intro A6 c6 w6 ho6 hg6; have hb6 := gr_below hg6 (w0 := w1) (b := w1.heap.size) (by (have hb5 := HB5.out); repeat (first | (with_reducible exact Below.refl _ _) | (with_reducible refine Below.trans ?_ (Below.mono (by assumption) (by first | omega | (simp; done) | (simp; omega) | (simp [*]; done)))) | (with_reducible refine Below.alloc ?_ (by first | omega | (simp; done) | (simp; omega) | (simp [*]; done)) _) | (with_reducible refine Below.setCell ?_ (by first | omega | (simp; done) | (simp; omega) | (simp [*]; done)) _) | (with_reducible refine Below.drew ?_) | (with_reducible refine below_drewN ?_))) (by (first | omega | (simp; done) | (simp; omega))) (fun q hq => (own_in HO5.out q hq).1); rw [← ints_append] at ho6; have HO6 := hid ho6; have HB6 := hid hb6; clear ho6 hg6 hb6) | (refine step_app _ rfl (.tmp 27) (.tmp 38) 34 rfl w1.heap.size 23 (.agg #[.int .i64 0, .int .i64 0, .int .i64 0]) 3 24 Try.underlying34 infoMsg rfl (by decide) _ N (ints hs) rfl ?_ ⟨w1.heap.size, 0, none⟩ 1 1 (ints [ff, 0, vv]) rfl rfl ?_ (ints_one _) (by omega) (by decide) ?_ ?_; (focus (first | exact HO5.out | exact HO5.out.alloc _ | exact HO5.out.drew)); (focus (first | exact news_blk (t := 23) (Blk.new (by first | rfl | (simp; done))) | exact news_blk (t := 23) (HK5.out _ _ _ (by (first | ((repeat (first | (with_reducible assumption) | (with_reducible apply Blk.drew) | (with_reducible apply Blk.drewN) | (with_reducible apply Blk.new; first | rfl | (simp; done)) | (with_reducible apply Blk.alloc) | (with_reducible apply Blk.set_) | (with_reducible apply Blk.past; focus assumption) | (with_reducible apply Blk.far; focus (first | (simp; done) | (simp; omega) | (dsimp only; omega))))); done) | (apply Blk.cast; (case h => (repeat (first | (with_reducible assumption) | (with_reducible apply Blk.drew) | (with_reducible apply Blk.drewN) | (with_reducible apply Blk.new; first | rfl | (simp; done)) | (with_reducible apply Blk.alloc) | (with_reducible apply Blk.set_) | (with_reducible apply Blk.past; focus assumption) | (with_reducible apply Blk.far; focus (first | (simp; done) | (simp; omega) | (dsimp only; omega)))))); (case e => rfl)))) (fun q hq => by have h1 := own_here q hq; (first | omega | (simp at h1; omega)))))); (focus (first | omega | (simp; done) | (simp; omega))); intro A6 c6 w6 ho6 hg6; have hb6 := gr_below hg6 (w0 := w1) (b := w1.heap.size) (by (have hb5 := HB5.out); repeat (first | (with_reducible exact Below.refl _ _) | (with_reducible refine Below.trans ?_ (Below.mono (by assumption) (by first | omega | (simp; done) | (simp; omega) | (simp [*]; done)))) | (with_reducible refine Below.alloc ?_ (by first | omega | (simp; done) | (simp; omega) | (simp [*]; done)) _) | (with_reducible refine Below.setCell ?_ (by first | omega | (simp; done) | (simp; omega) | (simp [*]; done)) _) | (with_reducible refine Below.drew ?_) | (with_reducible refine below_drewN ?_))) (by (first | omega | (simp; done) | (simp; omega))) (fun q hq => (own_in HO5.out q hq).1); rw [← ints_append] at ho6; have HO6 := hid ho6; have HB6 := hid hb6; clear ho6 hg6 hb6))
    all_goals
      go_wp2_with fail
      go_meet
      exact ⟨A6, c6, rfl, HO6.out, HB6.out⟩
  case rest =>
    obtain ⟨A8, c8, rfl, hx8, hb8⟩ := hcut
    obtain ⟨wq, rfl⟩ : ∃ z : World, z = wc := ⟨_, rfl⟩
    have hbq := b_1.trans (hb8.mono (by omega))
    have hwdq := own_below wd_1 hb8
    have hmq := own_below HM.out hb8
    have hf0q := cell_kept hf0 hb8 hgp1
    have zq := hb8.size
    have hgpq : gp < wq.heap.size := by omega
    have hxin := own_in hx8
    obtain ⟨gs, rfl, hgs0, hgs1, hsc⟩ := own_at hwdq (by omega)
    have hat := HAT.out 0 (by omega)
    obtain ⟨sx, hsx, hh0, hh1, hh2⟩ := hat
    rw [Nat.zero_mod] at hsx hh0
    rw [Nat.zero_div] at hh1 hh2
    obtain ⟨vb, hvb⟩ : ∃ v, belowI sx ((0 : Nat) : Int) p = v := ⟨_, rfl⟩
    rw [hvb] at hh2
    have hmc := (own_cells hmq (by omega)).2
    have hm0 := hmc 0 _ (ints_get hh0)
    have hm1 := hmc 1 _ (ints_get hh1)
    have hm2 := hmc 2 _ (ints_get hh2)
    have hs0 := hsc 0 _ (ints_get hsx)
    have hgmq : gm < wq.heap.size := by omega
    have HG := hid (msgB_may (p := p) (r := 12) (j := 0) (k := 0) ⟨HW.out, HF.out, by rw [HLX.out]; omega, by rw [HLX.out]; omega, by omega, by omega⟩ hsx (by decide))
    have HVB := hid hvb
    have hxl : (hs ++ [ff, 0, vv]).length = (N + 1) * 3 := by rw [List.length_append, HL.out]; simp; omega
    have HXL := hid hxl
    have HBX := hid ((HBY.out (hs ++ [ff, 0, vv]) (N + 1)).trans (blame_extra HL.out))
    have HB2 := hid (blameI_no (ms := hs) (n := N) (mayB_words (p := p) (r := (R : Int)) (xs := [-1]) rfl))
    have heq := eq3_same 0 0 vb
    have hNp : (0 : Int) < (N : Int) := by omega
    have hN0 : 0 < N := by omega
    clear hsx hh0 hh1 hh2 hvb hmc hsc hxl wd_1 pl_1 m_1 hf0 hf1 b_1 hb8 hvv
    have b_40 := hbq
    have s_40 := b_40.size
    have wd_in := own_in hwdq
    have wd_40 := hwdq
    clear hwdq
    have m_in := own_in hmq
    have m_40 := hmq
    clear hmq
    have x_in := hxin
    have x_40 := hx8
    clear hx8
    have f0_40 := hf0q
    clear hf0q
    have lt_f0 : gp < wq.heap.size := by omega
    have m0_40 := hm0
    clear hm0
    have lt_m0 : gm < wq.heap.size := by omega
    have m1_40 := hm1
    clear hm1
    have lt_m1 : gm < wq.heap.size := by omega
    have m2_40 := hm2
    clear hm2
    have lt_m2 : gm < wq.heap.size := by omega
    go_wp2_with fail
    refine calls_forget0 (W := wq) ?_ ?_
    (focus (repeat (first | (with_reducible exact Below.refl _ _) | (with_reducible refine Below.trans ?_ (Below.mono (by assumption) (by first | omega | (simp; done) | (simp; omega) | (simp [*]; done)))) | (with_reducible refine Below.alloc ?_ (by first | omega | (simp; done) | (simp; omega) | (simp [*]; done)) _) | (with_reducible refine Below.setCell ?_ (by first | omega | (simp; done) | (simp; omega) | (simp [*]; done)) _) | (with_reducible refine Below.drew ?_) | (with_reducible refine below_drewN ?_))))
    intro X41 hX41
    have sX41 := hX41.size
    refine (iExp_zero _ _ _ _ HG.out HVB.out).mono ?_
    rintro e w41 ⟨rfl, hb41⟩
    have s41 := hb41.size
    have hT41 := hX41.trans (hb41.mono sX41)
    have b_41 := b_40.trans (hT41.mono (by omega))
    have wd_41 := own_below wd_40 hT41
    have m_41 := own_below m_40 hT41
    have x_41 := own_below x_40 hT41
    have f0_41 := cell_kept f0_40 hT41 (by dsimp only; omega)
    have m0_41 := cell_kept m0_40 hT41 (by dsimp only; omega)
    have m1_41 := cell_kept m1_40 hT41 (by dsimp only; omega)
    have m2_41 := cell_kept m2_40 hT41 (by dsimp only; omega)
    clear wd_40 m_40 x_40 f0_40 m0_40 m1_40 m2_40 b_40 lt_f0 lt_m0 lt_m1 lt_m2 hX41 hT41 hb41
    have lt_f0 : gp < w41.heap.size := (by omega)
    have lt_m0 : gm < w41.heap.size := (by omega)
    have lt_m1 : gm < w41.heap.size := (by omega)
    have lt_m2 : gm < w41.heap.size := (by omega)
    go_wp2_with fail
    refine wp_forget1 (w0 := w41) (B := w41.heap.size) (b0 := w41.heap.size) (t0 := 23) (c0 := #[.int .i64 0, .int .i64 0, .int .i64 vb]) ?_ ?_ ?_
    (focus (first | ((repeat (first | (with_reducible assumption) | (with_reducible apply Blk.drew) | (with_reducible apply Blk.drewN) | (with_reducible apply Blk.new; first | rfl | (simp; done)) | (with_reducible apply Blk.alloc) | (with_reducible apply Blk.set_) | (with_reducible apply Blk.past; focus assumption) | (with_reducible apply Blk.far; focus (first | (simp; done) | (simp; omega) | (dsimp only; omega))))); done) | (apply Blk.cast; (case h => (repeat (first | (with_reducible assumption) | (with_reducible apply Blk.drew) | (with_reducible apply Blk.drewN) | (with_reducible apply Blk.new; first | rfl | (simp; done)) | (with_reducible apply Blk.alloc) | (with_reducible apply Blk.set_) | (with_reducible apply Blk.past; focus assumption) | (with_reducible apply Blk.far; focus (first | (simp; done) | (simp; omega) | (dsimp only; omega)))))); (case e => rfl))))
    (focus (repeat (first | (with_reducible exact Below.refl _ _) | (with_reducible refine Below.trans ?_ (Below.mono (by assumption) (by first | omega | (simp; done) | (simp; omega) | (simp [*]; done)))) | (with_reducible refine Below.alloc ?_ (by first | omega | (simp; done) | (simp; omega) | (simp [*]; done)) _) | (with_reducible refine Below.setCell ?_ (by first | omega | (simp; done) | (simp; omega) | (simp [*]; done)) _) | (with_reducible refine Below.drew ?_) | (with_reducible refine below_drewN ?_))))
    intro w42 ee_42 hX42
    have sX42 := hX42.size
    have ee_lt := ee_42.lt
    have b_42 := b_41.trans (hX42.mono (by omega))
    have wd_42 := own_below wd_41 hX42
    have m_42 := own_below m_41 hX42
    have x_42 := own_below x_41 hX42
    have f0_42 := cell_kept f0_41 hX42 (by dsimp only; omega)
    have m0_42 := cell_kept m0_41 hX42 (by dsimp only; omega)
    have m1_42 := cell_kept m1_41 hX42 (by dsimp only; omega)
    have m2_42 := cell_kept m2_41 hX42 (by dsimp only; omega)
    clear wd_41 m_41 x_41 f0_41 m0_41 m1_41 m2_41 b_41 lt_f0 lt_m0 lt_m1 lt_m2 hX42
    have cell_ee := ee_42.cell
    have froz_ee := ee_42.frozen
    have lt_ee := ee_42.lt
    have lt_f0 : gp < w42.heap.size := (by omega)
    have lt_m0 : gm < w42.heap.size := (by omega)
    have lt_m1 : gm < w42.heap.size := (by omega)
    have lt_m2 : gm < w42.heap.size := (by omega)
    go_wp2_with fail
    go_region_held3 (fun w' => w'.cell? ⟨w41.heap.size, 0, none⟩ = some (.int .i64 0) ∧ w'.cell? ⟨w41.heap.size, 1, none⟩ = some (.int .i64 0) ∧ w'.cell? ⟨w41.heap.size, 2, none⟩ = some (.int .i64 vb) ∧ w'.cell? ⟨gp, 0, none⟩ = some (.int .i64 x0) ∧ w'.cell? ⟨gm, 0, none⟩ = some (.int .i64 ((0 : Nat) : Int)) ∧ w'.cell? ⟨gm, 1, none⟩ = some (.int .i64 ((0 : Nat) : Int)) ∧ w'.cell? ⟨gm, 2, none⟩ = some (.int .i64 vb)) (exact ⟨(Blk.cell (t := 23) (cs := #[.int .i64 0, .int .i64 0, .int .i64 vb]) (by repeat (first | (with_reducible assumption) | (with_reducible apply Blk.drew) | (with_reducible apply Blk.drewN) | (with_reducible apply Blk.new; first | rfl | (simp; done)) | (with_reducible apply Blk.alloc) | (with_reducible apply Blk.set_) | (with_reducible apply Blk.past; focus assumption) | (with_reducible apply Blk.far; focus (first | (simp; done) | (simp; omega) | (dsimp only; omega))))) 0), (Blk.cell (t := 23) (cs := #[.int .i64 0, .int .i64 0, .int .i64 vb]) (by repeat (first | (with_reducible assumption) | (with_reducible apply Blk.drew) | (with_reducible apply Blk.drewN) | (with_reducible apply Blk.new; first | rfl | (simp; done)) | (with_reducible apply Blk.alloc) | (with_reducible apply Blk.set_) | (with_reducible apply Blk.past; focus assumption) | (with_reducible apply Blk.far; focus (first | (simp; done) | (simp; omega) | (dsimp only; omega))))) 1), (Blk.cell (t := 23) (cs := #[.int .i64 0, .int .i64 0, .int .i64 vb]) (by repeat (first | (with_reducible assumption) | (with_reducible apply Blk.drew) | (with_reducible apply Blk.drewN) | (with_reducible apply Blk.new; first | rfl | (simp; done)) | (with_reducible apply Blk.alloc) | (with_reducible apply Blk.set_) | (with_reducible apply Blk.past; focus assumption) | (with_reducible apply Blk.far; focus (first | (simp; done) | (simp; omega) | (dsimp only; omega))))) 2), (by first | ((repeat (first | (with_reducible assumption) | (with_reducible refine cell_drew ?_) | (with_reducible refine cell_alloc ?_ (by first | (dsimp only; omega) | (simp; omega))) | (with_reducible refine cell_far ?_ (by first | (dsimp only; omega) | (simp; omega))))); done) | exact cell_kept f0_42 (by repeat (first | (with_reducible exact Below.refl _ _) | (with_reducible refine Below.trans ?_ (Below.mono (by assumption) (by first | omega | (simp; done) | (simp; omega) | (simp [*]; done)))) | (with_reducible refine Below.alloc ?_ (by first | omega | (simp; done) | (simp; omega) | (simp [*]; done)) _) | (with_reducible refine Below.setCell ?_ (by first | omega | (simp; done) | (simp; omega) | (simp [*]; done)) _) | (with_reducible refine Below.drew ?_) | (with_reducible refine below_drewN ?_))) (by dsimp only; omega)), (by first | ((repeat (first | (with_reducible assumption) | (with_reducible refine cell_drew ?_) | (with_reducible refine cell_alloc ?_ (by first | (dsimp only; omega) | (simp; omega))) | (with_reducible refine cell_far ?_ (by first | (dsimp only; omega) | (simp; omega))))); done) | exact cell_kept m0_42 (by repeat (first | (with_reducible exact Below.refl _ _) | (with_reducible refine Below.trans ?_ (Below.mono (by assumption) (by first | omega | (simp; done) | (simp; omega) | (simp [*]; done)))) | (with_reducible refine Below.alloc ?_ (by first | omega | (simp; done) | (simp; omega) | (simp [*]; done)) _) | (with_reducible refine Below.setCell ?_ (by first | omega | (simp; done) | (simp; omega) | (simp [*]; done)) _) | (with_reducible refine Below.drew ?_) | (with_reducible refine below_drewN ?_))) (by dsimp only; omega)), (by first | ((repeat (first | (with_reducible assumption) | (with_reducible refine cell_drew ?_) | (with_reducible refine cell_alloc ?_ (by first | (dsimp only; omega) | (simp; omega))) | (with_reducible refine cell_far ?_ (by first | (dsimp only; omega) | (simp; omega))))); done) | exact cell_kept m1_42 (by repeat (first | (with_reducible exact Below.refl _ _) | (with_reducible refine Below.trans ?_ (Below.mono (by assumption) (by first | omega | (simp; done) | (simp; omega) | (simp [*]; done)))) | (with_reducible refine Below.alloc ?_ (by first | omega | (simp; done) | (simp; omega) | (simp [*]; done)) _) | (with_reducible refine Below.setCell ?_ (by first | omega | (simp; done) | (simp; omega) | (simp [*]; done)) _) | (with_reducible refine Below.drew ?_) | (with_reducible refine below_drewN ?_))) (by dsimp only; omega)), (by first | ((repeat (first | (with_reducible assumption) | (with_reducible refine cell_drew ?_) | (with_reducible refine cell_alloc ?_ (by first | (dsimp only; omega) | (simp; omega))) | (with_reducible refine cell_far ?_ (by first | (dsimp only; omega) | (simp; omega))))); done) | exact cell_kept m2_42 (by repeat (first | (with_reducible exact Below.refl _ _) | (with_reducible refine Below.trans ?_ (Below.mono (by assumption) (by first | omega | (simp; done) | (simp; omega) | (simp [*]; done)))) | (with_reducible refine Below.alloc ?_ (by first | omega | (simp; done) | (simp; omega) | (simp [*]; done)) _) | (with_reducible refine Below.setCell ?_ (by first | omega | (simp; done) | (simp; omega) | (simp [*]; done)) _) | (with_reducible refine Below.drew ?_) | (with_reducible refine below_drewN ?_))) (by dsimp only; omega))⟩) (first | (go_at_call 18; refine calls_forget0 (W := w42) ?_ ?_; (focus (repeat (first | (with_reducible exact Below.refl _ _) | (with_reducible refine Below.trans ?_ (Below.mono (by assumption) (by first | omega | (simp; done) | (simp; omega) | (simp [*]; done)))) | (with_reducible refine Below.alloc ?_ (by first | omega | (simp; done) | (simp; omega) | (simp [*]; done)) _) | (with_reducible refine Below.setCell ?_ (by first | omega | (simp; done) | (simp; omega) | (simp [*]; done)) _) | (with_reducible refine Below.drew ?_) | (with_reducible refine below_drewN ?_)))); intro X43 hX43; have sX43 := hX43.size; refine (iBlame_at _ _ _ _ _ _ _ _ _ _ _ _ HLX.out HBX.out (Cells.of_own (own_below wd_42 hX43)) (by omega) (Cells.of_own (own_below x_42 hX43)) HXL.out (by omega)).mono ?_; rintro e w43 ⟨rfl, hb43⟩; have s43 := hb43.size; have hT43 := hX43.trans (hb43.mono sX43); have b_43 := b_42.trans (hT43.mono (by omega)); have wd_43 := own_below wd_42 hT43; have m_43 := own_below m_42 hT43; have x_43 := own_below x_42 hT43; have ee_43 := Blk.past hT43 ee_42; have f0_43 := cell_kept f0_42 hT43 (by dsimp only; omega); have m0_43 := cell_kept m0_42 hT43 (by dsimp only; omega); have m1_43 := cell_kept m1_42 hT43 (by dsimp only; omega); have m2_43 := cell_kept m2_42 hT43 (by dsimp only; omega); clear wd_42 m_42 x_42 ee_42 f0_42 m0_42 m1_42 m2_42 b_42 cell_ee froz_ee lt_ee lt_f0 lt_m0 lt_m1 lt_m2 hX43 hT43 hb43; have cell_ee := ee_43.cell; have froz_ee := ee_43.frozen; have lt_ee := ee_43.lt; have lt_f0 : gp < w43.heap.size := (by omega); have lt_m0 : gm < w43.heap.size := (by omega); have lt_m1 : gm < w43.heap.size := (by omega); have lt_m2 : gm < w43.heap.size := (by omega)) | (go_at_call 18; refine calls_forget1 (W := w43) (b0 := w43.heap.size) (t0 := 3) (c0 := #[.int .i64 (-1)]) ?_ ?_ ?_; (focus (first | ((repeat (first | (with_reducible assumption) | (with_reducible apply Blk.drew) | (with_reducible apply Blk.drewN) | (with_reducible apply Blk.new; first | rfl | (simp; done)) | (with_reducible apply Blk.alloc) | (with_reducible apply Blk.set_) | (with_reducible apply Blk.past; focus assumption) | (with_reducible apply Blk.far; focus (first | (simp; done) | (simp; omega) | (dsimp only; omega))))); done) | (apply Blk.cast; (case h => (repeat (first | (with_reducible assumption) | (with_reducible apply Blk.drew) | (with_reducible apply Blk.drewN) | (with_reducible apply Blk.new; first | rfl | (simp; done)) | (with_reducible apply Blk.alloc) | (with_reducible apply Blk.set_) | (with_reducible apply Blk.past; focus assumption) | (with_reducible apply Blk.far; focus (first | (simp; done) | (simp; omega) | (dsimp only; omega)))))); (case e => rfl)))); (focus (repeat (first | (with_reducible exact Below.refl _ _) | (with_reducible refine Below.trans ?_ (Below.mono (by assumption) (by first | omega | (simp; done) | (simp; omega) | (simp [*]; done)))) | (with_reducible refine Below.alloc ?_ (by first | omega | (simp; done) | (simp; omega) | (simp [*]; done)) _) | (with_reducible refine Below.setCell ?_ (by first | omega | (simp; done) | (simp; omega) | (simp [*]; done)) _) | (with_reducible refine Below.drew ?_) | (with_reducible refine below_drewN ?_)))); intro X44 lit_n hX44; have sX44 := hX44.size; have lit_lt := lit_n.lt; refine (iBlame_at _ _ _ _ _ _ 1 [-1] _ _ _ _ rfl HB2.out (cells_blk lit_n) (by decide) (Cells.of_own (own_below m_43 hX44)) HL.out (by omega)).mono ?_; rintro e w44 ⟨rfl, hb44⟩; have s44 := hb44.size; have hT44 := hX44.trans (hb44.mono sX44); have b_44 := b_43.trans (hT44.mono (by omega)); have wd_44 := own_below wd_43 hT44; have m_44 := own_below m_43 hT44; have x_44 := own_below x_43 hT44; have ee_44 := Blk.past hT44 ee_43; have f0_44 := cell_kept f0_43 hT44 (by dsimp only; omega); have m0_44 := cell_kept m0_43 hT44 (by dsimp only; omega); have m1_44 := cell_kept m1_43 hT44 (by dsimp only; omega); have m2_44 := cell_kept m2_43 hT44 (by dsimp only; omega); have lit_44 := Blk.past hb44 lit_n; clear wd_43 m_43 x_43 ee_43 f0_43 m0_43 m1_43 m2_43 b_43 cell_ee froz_ee lt_ee lt_f0 lt_m0 lt_m1 lt_m2 lit_n hX44 hT44 hb44; have cell_ee := ee_44.cell; have froz_ee := ee_44.frozen; have lt_ee := ee_44.lt; have cell_lit := lit_44.cell; have froz_lit := lit_44.frozen; have lt_lit := lit_44.lt; have lt_f0 : gp < w44.heap.size := (by omega); have lt_m0 : gm < w44.heap.size := (by omega); have lt_m1 : gm < w44.heap.size := (by omega); have lt_m2 : gm < w44.heap.size := (by omega)))
    go_wp2
    go_ret
    refine ⟨rfl, b_44.trans ?_⟩
    repeat (first | (with_reducible exact Below.refl _ _) | (with_reducible refine Below.trans ?_ (Below.mono (by assumption) (by first | omega | (simp; done) | (simp; omega) | (simp [*]; done)))) | (with_reducible refine Below.alloc ?_ (by first | omega | (simp; done) | (simp; omega) | (simp [*]; done)) _) | (with_reducible refine Below.setCell ?_ (by first | omega | (simp; done) | (simp; omega) | (simp [*]; done)) _) | (with_reducible refine Below.drew ?_) | (with_reducible refine below_drewN ?_))
set_option maxRecDepth 100000 in
theorem lifted (os : Os) (started : os.Started) (H : Type) (enc : TypeId × Value → H) :
    ReturnsInHanded {} Try.checked os 5 .any (Rows.fnExtraMessageSpec.pre6 enc Try.prog Try.f5 Rows.fnExtraMessageRow.domain false) (Rows.fnExtraMessageSpec.post enc Try.prog Try.f5 false true false false) := by
  refine returnsInHanded_of_change (C := Try.checked) own started (by kernel_rfl) Try.func5
    (ChangeSpec.witness6 (enc := enc) (C := Try.checked) false ⟨#[], #[.slice none 0 0], []⟩ 8 (by kernel_rfl) (by kernel_rfl) (by kernel_rfl) (by kernel_rfl)) ?_
  intro W base args ds gs before hval0 hW _ _
  have hval : ∀ (j : Nat) t v, Try.f5.params[j]? = some t → args[j]? = some v → Value.okWide Try.prog W .any base t v := hval0
  have hW' := hW
  obtain ⟨p, q, hA0, hV, rfl, _, _⟩ := hW
  have hA : DataW.TrodAll enc Try.prog W 0 (fun _ => true) true Try.f5.params.toList args.toList ds p := hA0
  rw [Try.params5] at hA hval
  obtain ⟨v0, vs0, d0, ds0, p0, q0, hargs, rfl, rfl, h0, r0⟩ := trodAll_cons hA
  obtain ⟨rfl, rfl, rfl⟩ := trodAll_nil r0
  obtain rfl : args = #[v0] := by cases args; simp_all
  obtain ⟨rfl, rfl⟩ := trodVars_none hV
  obtain ⟨A0, c0, xs0, rfl, hb0⟩ := view_bytes Try.underlying28 Try.underlying5 (by kernel_rfl) (hval 0 28 v0 rfl rfl) h0 (fun x hx => hW'.lt x (by simp [hx]))
  refine (walk A0 c0 xs0 W hb0).mono fun e W' ⟨he, hb⟩ => ?_
  subst he
  exact ⟨_, rfl, law_post rfl (by kernel_rfl) (by kernel_rfl) rfl Try.underlying4 hW' rfl rfl rfl hb⟩
theorem closed : joinedFacts Try.prog 5 Try.f5 Rows.fnExtraMessageSpec Rows.fnExtraMessageRow = true := by
  unfold joinedFacts
  rw [makeIs, mayIs, finalsIs]
  kernel_rfl
theorem over : Rows.fnExtraMessageRow.holds Try.pinned (OpenSpec.ofChange Rows.fnExtraMessageSpec) :=
  OpenClaim.holds_of_wide 5 Try.f5 rfl rfl rfl rfl rfl rfl rfl ⟨rfl, rfl, rfl, rfl, rfl⟩ rfl rfl rfl rfl rfl (by kernel_rfl) Try.func5 closed
    (of_decide_eq_true (by kernel_rfl)) (by unfold Func.isWrapper; first | (rw [if_pos (by decide +kernel)]; kernel_rfl) | (rw [if_neg (by decide +kernel)]; exact ⟨rfl, rfl⟩))
    (fun os started H enc _ => lifted os started H enc)
theorem proved : Rows.FnExtraMessageSaid := over
#print axioms proved

end extra
end Go.Proofs.Ytgkkljcboicipaa
