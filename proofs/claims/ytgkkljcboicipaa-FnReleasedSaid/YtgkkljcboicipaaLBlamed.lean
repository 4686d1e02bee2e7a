/- The laws on blame: an honest run blames nobody, a deviation is attributed to the party that deviated first, an additional message to its sender (FnBlamed, FnExtraMessage). No conditions. -/
import Derived.Test.YtgkkljcboicipaaProto
import Derived.Test.YtgkkljcboicipaaJudgeLaw
import Derived.Test.YtgkkljcboicipaaHead
import Derived.StillTailTactics
set_option linter.unusedVariables false
namespace Go.Proofs.Ytgkkljcboicipaa
open Go.RowKit Go.ChangeShapes Go.WideShapes Go.ChangeAt

theorem iHon_at (p : Int) (A : Option Addr) (c L : Nat) (xs : List Int) (r : Int) (w : World) (N : Nat) (hs : List Int) (hL : xs.length = L) (hN : honN p xs r = N) (hH : honL p xs r = hs) (hc : Cells w w.heap.size A (ints xs)) (hn : L ≤ 1000000000) :
    Calls Try.prog 17 #[.int .i64 p, .slice A L c, .int .i64 r] w fun e w' => ∃ A' c', e = .returned (.slice A' N c') ∧ w'.ownsRow w.heap.size 23 3 (.slice A' N c') N (ints hs) ∧ Below w.heap.size w w' := by
  subst hL hN hH
  exact iHonestRun p A c xs r w hc hn
theorem iBlame_at (p : Int) (A B : Option Addr) (c d n L : Nat) (xs : List Int) (r : Int) (ms : List Int) (w : World) (v : Int) (hL : xs.length = L) (hv : blameI p xs r ms n = v) (hc : Cells w w.heap.size A (ints xs)) (hn : L ≤ 1000000000)
    (hq : Cells w w.heap.size B (ints ms)) (hl : ms.length = n * 3) (hn2 : n ≤ 1000000000) :
    Calls Try.prog 18 #[.int .i64 p, .slice A L c, .int .i64 r, .slice B n d] w fun e w' => e = .returned (.int .i64 v) ∧ Below w.heap.size w w' := by
  subst hL hv
  exact iBlame p A B c d n xs r ms w hc hn hq hl hn2
theorem cells_pre {w : World} {B : Nat} {A : Option Addr} {xs : List Int} (h : Cells w B A (ints xs)) (k : Nat) : Cells w B A (ints (xs.take k)) := fun h0 => by
  have hlen : 0 < (ints xs).length := by
    rw [ints_length] at *
    rw [List.length_take] at h0
    omega
  obtain ⟨b, off, e, hb, hc⟩ := h hlen
  refine ⟨b, off, e, hb, fun i v hv => hc i v ?_⟩
  simp only [ints, List.getElem?_map, List.getElem?_take] at hv ⊢
  split at hv
  · exact hv
  · simp at hv
theorem may_proto {p : Int} {R : Nat} {xs : List Int} (hf : fieldOkB p = true) (hr6 : R ≤ 6) (hx1 : 1 ≤ xs.length) (hx4 : xs.length ≤ 4) (hws : wordsB xs = true) : mayB p xs R = true := by
  unfold mayB
  have e1 : inB (xs.length : Int) 1 5 = true := inB_iff.2 (by omega)
  have e2 : inB (R : Int) 0 12 = true := inB_iff.2 (by omega)
  rw [hws, hf, e1, e2]
  rfl
theorem own_cap' {w : World} {base e size n c g : Nat} {xs : List Value} (h : w.ownsRow base e size (.slice (some ⟨g, 0, none⟩) n c) n xs) : n ≤ c := by
  rcases h.2 with ⟨hv, _⟩ | ⟨g', cap, cur, hv, hg, hh, hn', r⟩
  · injection hv with h2 _ _
    cases h2
  · injection hv with _ _ hcc
    subst hcc
    exact hn'
namespace blamed
set_option maxRecDepth 100000 in
set_option maxHeartbeats 6400000 in
theorem walk (A : Option Addr) (c : Nat) (bs : List Int) (w : World) (hb : Bytes w w.heap.size A bs) :
    Calls Try.prog 4 #[.slice A bs.length c] w fun e w' => e = .returned (.bool true) ∧ Below w.heap.size w w' := by
  have hl := hb.len
  have HB := hid hb
  clear hb
  by_cases h1 : (1048576 : Int) < (bs.length : Int)
  · go_enter Try.func4, Try.ntmps4
    go_wp2_with (go_at_call 14; refine (big_any _ _ _ _ hl).mono ?_; rintro e w' ⟨rfl, rfl⟩)
    go_ret
    exact ⟨rfl, Below.refl _ _⟩
  go_enter Try.func4, Try.ntmps4
  go_wp2_with fail
  refine (big_any _ _ _ _ hl).mono ?_
  rintro e w' ⟨rfl, rfl⟩
  go_wp2_with fail
  refine (protocol_any _ _ _ _ HB.out).mono ?_
  rintro e w0 ⟨p, r, xs, A', c', hf, hr1, hr6, hx1, hx4, hws, he, hown, hb0⟩
  obtain ⟨R, rfl⟩ := Int.eq_ofNat_of_zero_le (show 0 ≤ r by omega)
  obtain ⟨hp0, hp1⟩ := field_range hf
  have hm := may_proto (R := R) hf (by omega) hx1 hx4 hws
  have hon := hon_yes hm
  obtain ⟨L, hLx⟩ : ∃ L, xs.length = L := ⟨_, rfl⟩
  have hat := fun (q : Nat) (hq : q < R * xs.length) => honTo_at (p := p) (K := R) hx1 hq
  rw [hLx] at he hown hx1 hx4 hon hat
  subst he
  obtain ⟨N, hN⟩ : ∃ N, R * L = N := ⟨_, rfl⟩
  obtain ⟨hs, hhs⟩ : ∃ hs, honTo p xs R = hs := ⟨_, rfl⟩
  have hNb : 1 ≤ N ∧ N ≤ 24 := by
    subst hN
    exact ⟨Nat.mul_le_mul (show 1 ≤ R by omega) hx1, Nat.mul_le_mul (show R ≤ 6 by omega) hx4⟩
  have hHL : hs.length = N * 3 := by rw [← hhs, honTo_length, hLx, hN]
  rw [hhs, hN] at hat
  have HAT := hid hat
  have HLX := hid hLx
  have HN := hid (hon.1.trans (by rw [show (R : Int).toNat = R from rfl, hN]) : honN p xs R = N)
  have HH := hid (hon.2.trans (by rw [show (R : Int).toNat = R from rfl, hhs]) : honL p xs R = hs)
  have HL := hid hHL
  have HSELF := hid (by rw [blameI_yes hm, HN.out, HH.out, blame_self] : blameI p xs R hs N = -1)
  have HBY := hid (fun (ms : List Int) (n : Nat) => (by rw [blameI_yes hm, HN.out, HH.out] : blameI p xs R ms n = blameAt ms hs n N))
  have HW := hid hws
  have hmul : (R : Int) * (L : Int) = (N : Int) := by rw [← hN]; simp
  have HMUL := hid hmul
  clear hm hon hN hhs hHL hmul hf hws hat hLx
  go_wp2_with fail
  refine (places_any _ _ _ _ ((HB.out.step hb0).more hb0.size)).mono ?_
  rintro e wb ⟨ps, hlen, hsm, Ap, cp, he, hop, hb1⟩
  rw [hlen] at he hop
  subst he
  have hwd := own_below hown hb1
  have hbb := hb0.trans (hb1.mono hb0.size)
  have zw := hbb.size
  have hps := And.intro hlen hsm
  have HPS := hid hps
  clear hown hb0 hb1 hlen hsm hps
  have b_0 := hbb
  have s_0 := b_0.size
  have wd_in := own_in hwd
  have wd_0 := hwd
  clear hwd
  have pl_in := own_in hop
  have pl_0 := hop
  clear hop
  go_wp2_with fail
  refine calls_forget0 (W := wb) ?_ ?_
  (focus (repeat (first | (with_reducible exact Below.refl _ _) | (with_reducible refine Below.trans ?_ (Below.mono (by assumption) (by first | omega | (simp; done) | (simp; omega) | (simp [*]; done)))) | (with_reducible refine Below.alloc ?_ (by first | omega | (simp; done) | (simp; omega) | (simp [*]; done)) _) | (with_reducible refine Below.setCell ?_ (by first | omega | (simp; done) | (simp; omega) | (simp [*]; done)) _) | (with_reducible refine Below.drew ?_) | (with_reducible refine below_drewN ?_))))
  intro X1 hX1
  have sX1 := hX1.size
  refine (iHon_at _ _ _ _ _ _ _ _ _ HLX.out HN.out HH.out (Cells.of_own (own_below wd_0 hX1)) (by omega)).mono ?_
  rintro e w1 ⟨Am, cm, rfl, m_1, hb1⟩
  have s1 := hb1.size
  have hT1 := hX1.trans (hb1.mono sX1)
  have b_1 := b_0.trans (hT1.mono (by omega))
  have wd_1 := own_below wd_0 hT1
  have pl_1 := own_below pl_0 hT1
  have m_in := own_in m_1
  clear wd_0 pl_0 b_0 hX1 hT1 hb1
  have hmul := HMUL.out
  go_wp2_with fail
  refine calls_forget0 (W := w1) ?_ ?_
  (focus (repeat (first | (with_reducible exact Below.refl _ _) | (with_reducible refine Below.trans ?_ (Below.mono (by assumption) (by first | omega | (simp; done) | (simp; omega) | (simp [*]; done)))) | (with_reducible refine Below.alloc ?_ (by first | omega | (simp; done) | (simp; omega) | (simp [*]; done)) _) | (with_reducible refine Below.setCell ?_ (by first | omega | (simp; done) | (simp; omega) | (simp [*]; done)) _) | (with_reducible refine Below.drew ?_) | (with_reducible refine below_drewN ?_))))
  intro X2 hX2
  have sX2 := hX2.size
  refine (iBlame_at _ _ _ _ _ _ _ _ _ _ _ _ HLX.out HSELF.out (Cells.of_own (own_below wd_1 hX2)) (by omega) (Cells.of_own (own_below m_1 hX2)) HL.out (by omega)).mono ?_
  rintro e w2 ⟨rfl, hb2⟩
  have s2 := hb2.size
  have hT2 := hX2.trans (hb2.mono sX2)
  have b_2 := b_1.trans (hT2.mono (by omega))
  have wd_2 := own_below wd_1 hT2
  have pl_2 := own_below pl_1 hT2
  have m_2 := own_below m_1 hT2
  clear wd_1 pl_1 m_1 b_1 hX2 hT2 hb2
  clear hmul
  obtain ⟨gm, rfl, hgm0, hgm1, _⟩ := own_at m_2 (by omega)
  go_upto_region 8 with fail
  go_wp2_with (at_builtin; refine wpList_appi rfl _ _ 34 rfl w2.heap.size 23 (.agg #[.int .i64 0, .int .i64 0, .int .i64 0]) 3 24 Try.underlying34 infoMsg rfl (by decide) _ 0 [] rfl (own_lit #[] 0 rfl (Nat.le_refl _) (Nat.zero_le _) rfl) ⟨gm, 0, none⟩ (N) _ (ints hs) rfl (by first | rfl | (simp; done) | omega | (rw [ints_length]; assumption) | (rw [ints_length]; exact Hid.out (by assumption))) (news_of (own_cells m_2 (by omega)).2 (own_cells m_2 (by omega)).1 _) (ints_one hs) (by omega) (by decide) (by simp) ?_)
  intro A_x c_x w3 x_3 hg3 _
  try simp only [Nat.zero_add, List.nil_append] at x_3
  have hb3 : Below w2.heap.size w2 w3 := ((Below.refl _ _).alloc (Nat.le_refl _) _).grown hg3 (by simp) (fun q hq => by have h1 := own_here q hq; omega)
  have s3 := hb3.size
  have b_3 := b_2.trans (hb3.mono (by omega))
  have wd_3 := own_below wd_2 hb3
  have pl_3 := own_below pl_2 hb3
  have m_3 := own_below m_2 hb3
  have x_in := own_in x_3
  clear wd_2 pl_2 m_2 b_2 hg3 hb3
  obtain ⟨gx, rfl, hgx0, hgx1, _⟩ := own_at x_3 (by omega)
  obtain ⟨gp, rfl, hgp0, hgp1, hpc⟩ := own_at pl_3 (by omega)
  obtain ⟨x0, e0⟩ : ∃ x, ps[0]? = some x := ⟨_, List.getElem?_eq_getElem (by have := HPS.out.1; omega)⟩
  obtain ⟨x1, e1⟩ : ∃ x, ps[1]? = some x := ⟨_, List.getElem?_eq_getElem (by have := HPS.out.1; omega)⟩
  obtain ⟨p0, q0⟩ := HPS.out.2 x0 (List.mem_of_getElem? e0)
  obtain ⟨p1, q1⟩ := HPS.out.2 x1 (List.mem_of_getElem? e1)
  have hf0 := hpc 0 _ (ints_get e0)
  have hf1 := hpc 1 _ (ints_get e1)
  clear hpc e0 e1
  obtain ⟨kk, hkk⟩ : ∃ kk : Nat, x0 % (N : Int) = (kk : Int) := ⟨(x0 % (N : Int)).toNat, by have := Int.emod_nonneg x0 (show (N : Int) ≠ 0 by omega); omega⟩
  have hkl : kk < N := by have := Int.emod_lt_of_pos x0 (show (0 : Int) < (N : Int) by omega); omega
  have HKK := hid hkk
  clear hkk
  go_upto_region 10 with fail
  rw [HKK.out]
  have hat := HAT.out kk hkl
  obtain ⟨sx, hsx, hh0, hh1, hh2⟩ := hat
  have hvr := belowI_lt (word_at HW.out hsx) hp0 hp1 (show kk / L ≤ 999999 by have h := Nat.div_le_self kk L; omega)
  obtain ⟨v, hv⟩ : ∃ v, belowI sx ((kk / L : Nat) : Int) p = v := ⟨_, rfl⟩
  rw [hv] at hh2 hvr
  obtain ⟨hv0, hv1⟩ := hvr
  have hu := (own_cells x_3 (by omega)).2 (kk * 3 + 2) _ (ints_get hh2)
  have hfr := x_3.frozenAt (kk * 3 + 2)
  have hk0 : (0 : Int) ≤ (kk : Int) := by omega
  have hk1 : (kk : Int) < (N : Int) := by omega
  have HH0 := hid hh0
  have HH2 := hid hh2
  clear hh0 hh1 hh2 hv hsx
  have hp0' : ¬ (p = 0) := by omega
  have hp1' : ¬ (p - 1 = 0) := by omega
  obtain ⟨dd, hdd⟩ : ∃ dd, x1 % (p - 1) = dd := ⟨_, rfl⟩
  have hd0 : 0 ≤ dd := by rw [← hdd]; exact Int.emod_nonneg _ (by omega)
  have hd1 : dd < p - 1 := by rw [← hdd]; exact Int.emod_lt_of_pos _ (by omega)
  have hsh := shift_ne hv0 hv1 (show 1 ≤ 1 + dd by omega) (by omega)
  rw [show v + (1 + dd) = v + 1 + dd by omega] at hsh
  obtain ⟨uu, huu⟩ : ∃ uu, (v + 1 + dd) % p = uu := ⟨_, rfl⟩
  rw [huu] at hsh
  have HSH := hid hsh
  have hw1 : IntKind.i64.wrap (v + 1) = v + 1 := IntWalk.i64_in _ (by omega)
  have hw2 : IntKind.i64.wrap (p - 1) = p - 1 := IntWalk.i64_in _ (by omega)
  have hw3 : IntKind.i64.wrap (v + 1 + dd) = v + 1 + dd := IntWalk.i64_in _ (by omega)
  have ht1 : x1.tmod (p - 1) = dd := (Int.tmod_eq_emod_of_nonneg p1).trans hdd
  have ht2 : (v + 1 + dd).tmod p = uu := (Int.tmod_eq_emod_of_nonneg (by omega)).trans huu
  clear hsh hdd huu
  go_still_tail 19, (by kernel_rfl)
  clear hw1 hw2 hw3 ht1 ht2
  go_upto_region 11 with fail
  first | refine wp_stored (x_3.stored (kk * 3 + 2) _) ?_ | refine wp_storedd (x_3.stored (kk * 3 + 2) _) ?_
  intro w4 x_4 hg4
  have s4 := hg4.size
  have b_4 := gr_below hg4 b_3 (by omega) (fun q hq => by have h1 := x_in q hq; omega)
  have wd_4 := gr_own hg4 wd_3 (fun q p hq hp => by have h1 := x_in q hq; have h2 := wd_in p hp; omega)
  have pl_4 := gr_own hg4 pl_3 (fun q p hq hp => by have h1 := x_in q hq; have h2 := pl_in p hp; omega)
  have m_4 := gr_own hg4 m_3 (fun q p hq hp => by have h1 := x_in q hq; have h2 := m_in p hp; omega)
  clear wd_3 pl_3 m_3 x_3 b_3 hg4
  clear hu hfr
  rw [ints_set] at x_4
  have hxl : (hs.set (kk * 3 + 2) uu).length = N * 3 := by rw [List.length_set]; exact HL.out
  obtain ⟨mm, hmm⟩ : ∃ mm : Int, ((kk % L : Nat) : Int) = mm := ⟨_, rfl⟩
  have hv1x := blame_set HL.out hkl HH0.out HH2.out HSH.out.1
  have hv2x := blame_take hkl HH0.out
  rw [hmm, ← HBY.out] at hv1x hv2x
  have HV1 := hid hv1x
  have HV2 := hid hv2x
  have HXL := hid hxl
  have hq1 : (kk : Int).tmod (L : Int) = mm := by rw [← hmm]; rfl
  have hq2 : (kk : Int) % (L : Int) = mm := by rw [← hmm]; rfl
  have hTL : (hs.take (kk * 3)).length = kk * 3 := by rw [List.length_take, HL.out]; omega
  have HTL := hid hTL
  have hcap := own_cap' m_4
  have hL0 : ¬ (L = 0) := by omega
  have hkc : (kk : Int) ≤ (cm : Int) := by omega
  clear hv1x hv2x hxl hmm hTL
  go_wp2_with fail
  go_region_held3 (fun w' => True) (exact trivial) (first | (go_at_call 18; refine calls_forget0 (W := w4) ?_ ?_; (focus (repeat (first | (with_reducible exact Below.refl _ _) | (with_reducible refine Below.trans ?_ (Below.mono (by assumption) (by first | omega | (simp; done) | (simp; omega) | (simp [*]; done)))) | (with_reducible refine Below.alloc ?_ (by first | omega | (simp; done) | (simp; omega) | (simp [*]; done)) _) | (with_reducible refine Below.setCell ?_ (by first | omega | (simp; done) | (simp; omega) | (simp [*]; done)) _) | (with_reducible refine Below.drew ?_) | (with_reducible refine below_drewN ?_)))); intro X5 hX5; have sX5 := hX5.size; refine (iBlame_at _ _ _ _ _ _ _ _ _ _ _ _ HLX.out HV1.out (Cells.of_own (own_below wd_4 hX5)) (by omega) (Cells.of_own (own_below x_4 hX5)) HXL.out (by omega)).mono ?_; rintro e w5 ⟨rfl, hb5⟩; have s5 := hb5.size; have hT5 := hX5.trans (hb5.mono sX5); have b_5 := b_4.trans (hT5.mono (by omega)); have wd_5 := own_below wd_4 hT5; have pl_5 := own_below pl_4 hT5; have m_5 := own_below m_4 hT5; have x_5 := own_below x_4 hT5; clear wd_4 pl_4 m_4 x_4 b_4 hX5 hT5 hb5) | (go_at_call 18; refine calls_forget0 (W := w5) ?_ ?_; (focus (repeat (first | (with_reducible exact Below.refl _ _) | (with_reducible refine Below.trans ?_ (Below.mono (by assumption) (by first | omega | (simp; done) | (simp; omega) | (simp [*]; done)))) | (with_reducible refine Below.alloc ?_ (by first | omega | (simp; done) | (simp; omega) | (simp [*]; done)) _) | (with_reducible refine Below.setCell ?_ (by first | omega | (simp; done) | (simp; omega) | (simp [*]; done)) _) | (with_reducible refine Below.drew ?_) | (with_reducible refine below_drewN ?_)))); intro X6 hX6; have sX6 := hX6.size; refine (iBlame_at _ _ _ _ _ _ _ _ _ _ _ _ HLX.out HV2.out (Cells.of_own (own_below wd_5 hX6)) (by omega) (cells_pre (Cells.of_own (own_below m_5 hX6)) _) HTL.out (by omega)).mono ?_; rintro e w6 ⟨rfl, hb6⟩; have s6 := hb6.size; have hT6 := hX6.trans (hb6.mono sX6); have b_6 := b_5.trans (hT6.mono (by omega)); have wd_6 := own_below wd_5 hT6; have pl_6 := own_below pl_5 hT6; have m_6 := own_below m_5 hT6; have x_6 := own_below x_5 hT6; clear wd_5 pl_5 m_5 x_5 b_5 hX6 hT6 hb6))
  clear hq1 hq2 hcap hL0 hkc
  go_wp2
  go_ret
  refine ⟨rfl, b_6.trans ?_⟩
  repeat (first | (with_reducible exact Below.refl _ _) | (with_reducible refine Below.trans ?_ (Below.mono (by assumption) (by first | omega | (simp; done) | (simp; omega) | (simp [*]; done)))) | (with_reducible refine Below.alloc ?_ (by first | omega | (simp; done) | (simp; omega) | (simp [*]; done)) _) | (with_reducible refine Below.setCell ?_ (by first | omega | (simp; done) | (simp; omega) | (simp [*]; done)) _) | (with_reducible refine Below.drew ?_) | (with_reducible refine below_drewN ?_))
set_option maxRecDepth 100000 in
theorem lifted (os : Os) (started : os.Started) (H : Type) (enc : TypeId × Value → H) :
    ReturnsInHanded {} Try.checked os 4 .any (Rows.fnBlamedSpec.pre6 enc Try.prog Try.f4 Rows.fnBlamedRow.domain false) (Rows.fnBlamedSpec.post enc Try.prog Try.f4 false true false false) := by
  refine returnsInHanded_of_change (C := Try.checked) own started (by kernel_rfl) Try.func4
    (ChangeSpec.witness6 (enc := enc) (C := Try.checked) false ⟨#[], #[.slice none 0 0], []⟩ 8 (by kernel_rfl) (by kernel_rfl) (by kernel_rfl) (by kernel_rfl)) ?_
  intro W base args ds gs before hval0 hW _ _
  have hval : ∀ (j : Nat) t v, Try.f4.params[j]? = some t → args[j]? = some v → Value.okWide Try.prog W .any base t v := hval0
  have hW' := hW
  obtain ⟨p, q, hA0, hV, rfl, _, _⟩ := hW
  have hA : DataW.TrodAll enc Try.prog W 0 (fun _ => true) true Try.f4.params.toList args.toList ds p := hA0
  rw [Try.params4] at hA hval
  obtain ⟨v0, vs0, d0, ds0, p0, q0, hargs, rfl, rfl, h0, r0⟩ := trodAll_cons hA
  obtain ⟨rfl, rfl, rfl⟩ := trodAll_nil r0
  obtain rfl : args = #[v0] := by cases args; simp_all
  obtain ⟨rfl, rfl⟩ := trodVars_none hV
  obtain ⟨A0, c0, xs0, rfl, hb0⟩ := view_bytes Try.underlying28 Try.underlying5 (by kernel_rfl) (hval 0 28 v0 rfl rfl) h0 (fun x hx => hW'.lt x (by simp [hx]))
  refine (walk A0 c0 xs0 W hb0).mono fun e W' ⟨he, hb⟩ => ?_
  subst he
  exact ⟨_, rfl, law_post rfl (by kernel_rfl) (by kernel_rfl) rfl Try.underlying4 hW' rfl rfl rfl hb⟩
theorem closed : joinedFacts Try.prog 4 Try.f4 Rows.fnBlamedSpec Rows.fnBlamedRow = true := by
  unfold joinedFacts
  rw [makeIs, mayIs, finalsIs]
  kernel_rfl
theorem over : Rows.fnBlamedRow.holds Try.pinned (OpenSpec.ofChange Rows.fnBlamedSpec) :=
  OpenClaim.holds_of_wide 4 Try.f4 rfl rfl rfl rfl rfl rfl rfl ⟨rfl, rfl, rfl, rfl, rfl⟩ rfl rfl rfl rfl rfl (by kernel_rfl) Try.func4 closed
    (of_decide_eq_true (by kernel_rfl)) (by unfold Func.isWrapper; first | (rw [if_pos (by decide +kernel)]; kernel_rfl) | (rw [if_neg (by decide +kernel)]; exact ⟨rfl, rfl⟩))
    (fun os started H enc _ => lifted os started H enc)
theorem proved : Rows.FnBlamedSaid := over
#print axioms proved

end blamed
end Go.Proofs.Ytgkkljcboicipaa
