/- The size of an unrolled program, in the program. -/
import Derived.Test.YtihbaieiempjeaaBy
import Derived.Test.YtihbaieiempjeaaPrg
namespace Go.Proofs.Ytihbaieiempjeaa
open Go.RowKit

theorem tree_one {L : List St} {s : St} {r : Tr} {j : Nat} (h : L.drop j = (Tr.one s r).flat) : L[j]? = some s ∧ L.drop (j + 1) = r.flat := by
  have h0 : L.drop j = s :: r.flat := h
  constructor
  · have h1 : (L.drop j)[0]? = some s := by rw [h0]; rfl
    rw [List.getElem?_drop] at h1
    exact h1
  · rw [← List.drop_drop, h0]
    rfl
theorem tree_loop {L : List St} {x e : St} {b r : Tr} {j : Nat} (h : L.drop j = (Tr.loop x b e r).flat) :
    L[j]? = some x ∧ (L.drop (j + 1)).take b.flat.length = b.flat ∧ L.drop (j + 1 + b.flat.length + 1) = r.flat ∧ j + 1 + b.flat.length + 1 ≤ L.length := by
  have h0 : L.drop j = x :: (b.flat ++ e :: r.flat) := h
  have h2 : L.drop (j + 1) = b.flat ++ e :: r.flat := by
    rw [← List.drop_drop, h0]
    rfl
  refine ⟨?_, ?_, ?_, ?_⟩
  · have h1 : (L.drop j)[0]? = some x := by rw [h0]; rfl
    rw [List.getElem?_drop] at h1
    exact h1
  · rw [h2, List.take_append_of_le_length (Nat.le_refl _), List.take_length]
  · rw [show j + 1 + b.flat.length + 1 = (j + 1) + (b.flat.length + 1) by omega, ← List.drop_drop, h2, ← List.drop_drop, List.drop_append_of_le_length (Nat.le_refl _), List.drop_length]
    rfl
  · have h3 : (L.drop (j + 1)).length = (b.flat ++ e :: r.flat).length := by rw [h2]
    rw [List.length_drop, List.length_append, List.length_cons] at h3
    omega
/-- The cells of a part of a row of statements. -/
theorem cells_part {w : World} {B b off : Nat} {L : List St} (h : Cells w B (some ⟨b, off, none⟩) (ints (flatS L))) (i m : Nat) : Cells w B (some ⟨b, off + i * 6, none⟩) (ints (flatS ((L.drop i).take m))) := fun h0 => by
  rw [ints_length, flatS_length, List.length_take, List.length_drop] at h0
  obtain ⟨b', off', e, hb, hc⟩ := h (by rw [ints_length, flatS_length]; omega)
  injection e with e
  injection e with e1 e2
  subst e1 e2
  refine ⟨b, off + i * 6, rfl, hb, fun k v hv => ?_⟩
  have hk := (List.getElem?_eq_some_iff.1 hv).1
  rw [ints_length, flatS_length, List.length_take, List.length_drop] at hk
  rw [Nat.add_assoc]
  refine hc _ v ?_
  rw [← flatS_take, ← flatS_drop] at hv
  unfold ints at hv ⊢
  rw [List.getElem?_map, List.getElem?_take, if_pos (by omega), List.getElem?_drop] at hv
  rw [List.getElem?_map]
  exact hv
theorem us_small {t : Tr} (h : t.ok = true) (hd : t.dp ≤ 3) (hl : t.flat.length ≤ 40) : t.us ≤ 20480 := by
  have h1 := us_le t h
  have h2 : 8 ^ t.dp ≤ 8 ^ 3 := Nat.pow_le_pow_right (by decide) hd
  have h3 : t.flat.length * 8 ^ t.dp ≤ 40 * 8 ^ 3 := Nat.mul_le_mul hl h2
  omega
set_option linter.unusedVariables false in
set_option maxRecDepth 100000 in
set_option maxHeartbeats 3200000 in
theorem iUszT : ∀ (m : Nat) (t : Tr), t.sz = m → t.ok = true → t.dp ≤ 3 → t.flat.length ≤ 40 → ∀ (A : Option Addr) (c : Nat) (w : World), Cells w w.heap.size A (ints (flatS t.flat)) → t.flat.length ≤ c →
    Calls Try.prog 101 #[.slice A t.flat.length c] w fun e w' => e = .returned (.int .i64 (t.us : Int)) ∧ Below w.heap.size w w' := by
  intro m
  induction m using Nat.strongRecOn with
  | _ m ih =>
    intro t hm hok hdp hl A c w hc hcap
    have HPR := hid (fun w hc => iProgOk A c t.flat w hc (by omega))
    rw [tree_prog hok hdp hl] at HPR
    have hus := us_small hok hdp hl
    have HC := hid hc
    have HM := hid (fun i w hc hi => iMatching A c t.flat i w hc (by omega) hi)
    obtain ⟨L, hL⟩ : ∃ L, t.flat = L := ⟨_, rfl⟩
    obtain ⟨U, hU⟩ : ∃ U, t.us = U := ⟨_, rfl⟩
    rw [hL] at HPR HC HM hcap hl
    rw [hL, hU]
    rw [hU] at hus
    have HL := hid hL
    clear hc
    go_enter Try.func101, Try.ntmps101
    have b_0 := (Below.refl w.heap.size w)
    have s_0 := b_0.size
    have hc := HC.out
    have l_0 := hc
    clear hc
    go_wp2_with fail
    refine calls_forget0 (W := w) ?_ ?_
    (focus (exact belBy))
    intro X1 hX1
    have sX1 := hX1.size
    refine (HPR.out _ ((cells_below l_0 hX1 (by omega)).more (by omega))).mono ?_
    rintro e w1 ⟨rfl, hb1⟩
    have s1 := hb1.size
    have hT1 := hX1.trans (hb1.mono sX1)
    have b_1 := b_0.trans (hT1.mono (by omega))
    have l_1 := cells_below l_0 hT1 (by omega)
    clear l_0 b_0 hX1 hT1 hb1
    have HB1 := hid b_1
    clear b_1 l_1
    go_wp2_with fail
    go_loopw [3, 4, 5] (fun n i _ wr => ∃ (j : Nat) (r : Tr) (u : Nat), j ≤ L.length ∧ i = .int .i64 j ∧ n = .int .i64 u ∧ r.ok = true ∧ r.dp ≤ 3 ∧ r.sz ≤ t.sz ∧ L.drop j = r.flat ∧ u + r.us = U ∧ Below w.heap.size w wr) (fun _ i _ _ => L.length - (intOf i).toNat)
    case atStart => exact ⟨0, t, 0, Nat.zero_le _, rfl, rfl, hok, hdp, Nat.le_refl _, hL.symm, by omega, HB1.out⟩
    case round =>
      obtain ⟨j, r, u, hj, rfl, rfl, hrok, hrd, hrs, hr, hu, hb⟩ := hrel
      have zb := hb.size
      cases r with
      | nil =>
        obtain rfl : j = L.length := by
          have := congrArg List.length hr
          rw [List.length_drop] at this
          simp [Tr.flat] at this
          omega
        have HU := hid (show u = U by simpa [Tr.us] using hu)
        have HB := hid hb
        clear hb
        go_wp2
        go_ret
        exact ⟨by rw [HU.out]; rfl, HB.out⟩
      | one s r =>
        obtain ⟨hx, hr2⟩ := tree_one hr
        obtain ⟨o, d, a, e, g, n⟩ := s
        obtain ⟨b, off, rfl, hB, d0, _, _, _, _, _⟩ := st_cells HC.out hb hx
        have hlt := (List.getElem?_eq_some_iff.1 hx).1
        have hlt' : (j : Int) < (L.length : Int) := by omega
        simp only [Tr.ok, Bool.and_eq_true, Bool.not_eq_true', beq_eq_false_iff_ne] at hrok
        have e1 : (o == 12) = false := by simpa using hrok.2.1
        have HB := hid hb
        have HR := hid (And.intro hrok.2.2.2 hr2)
        have hu2 : u + 1 + r.us = U := by simp only [Tr.us] at hu; omega
        have hd2 : r.dp ≤ 3 := hrd
        have hs2 : r.sz ≤ t.sz := by simp only [Tr.sz] at hrs; omega
        clear hb hx hr hr2 hrok hu hrd hrs
        go_wp2
        go_roundw
        case rel => exact ⟨j + 1, r, u + 1, by omega, by go_num, by go_num, HR.out.1, hd2, hs2, HR.out.2, hu2, HB.out⟩
        case measure => simp [intOf]; omega
      | loop x bd y r =>
        obtain ⟨hx, hbf, hr2, hle⟩ := tree_loop hr
        have hmt := mt_loop (R := []) hrok
        rw [List.append_nil, ← hr] at hmt
        simp only [Tr.ok, Bool.and_eq_true, beq_iff_eq] at hrok
        obtain ⟨h1, h2, h3, h4, h5, h6⟩ := hrok
        have hn := stmt_loop h1 h2
        obtain ⟨o, d, a, e, g, n⟩ := x
        obtain rfl : o = 12 := h2
        obtain ⟨b, off, rfl, hB, d0, _, _, _, _, d5⟩ := st_cells HC.out hb hx
        have hbz : b < wr.heap.size := by omega
        have hlt' : (j : Int) < (L.length : Int) := by omega
        have hdb : bd.dp ≤ 3 := by simp only [Tr.dp] at hrd; omega
        have hdr : r.dp ≤ 3 := by simp only [Tr.dp] at hrd; omega
        have hsb : bd.sz < m := by simp only [Tr.sz] at hrs; omega
        have hsr : r.sz ≤ t.sz := by simp only [Tr.sz] at hrs; omega
        have hbs := us_small h3 hdb (by omega)
        obtain ⟨N, rfl⟩ : ∃ N : Nat, n = N := ⟨n.toNat, by dsimp only at hn; omega⟩
        dsimp only at hn
        have hu2 : u + N * bd.us + r.us = U := by simp only [Tr.us, Int.toNat_natCast] at hu; omega
        have hcx := cells_part HC.out (j + 1) bd.flat.length
        rw [hbf] at hcx
        have hmul : (N : Int) * (bd.us : Int) = ((N * bd.us : Nat) : Int) := by simp
        obtain ⟨K, hK⟩ : ∃ K, bd.flat.length = K := ⟨_, rfl⟩
        have HIH := hid (fun (x : Later wr) => ih bd.sz hsb bd rfl h3 hdb (by omega) (some ⟨b, off + (j + 1) * 6, none⟩) (c - (j + 1)) x.val ((hcx.below (hb.trans (x.below.mono zb))).more (by have := x.below.size; omega)) (by omega))
        have HMM := HM.out j wr ((HC.out.below hb).more zb) (by omega)
        rw [hK, show K = j + (1 + K) - (j + 1) by omega] at HIH
        rw [hmt, hK] at HMM
        rw [hK] at hle hr2
        have HMM := hid HMM
        have HR := hid (And.intro h6 hr2)
        have hNb : N * bd.us ≤ 8 * 20480 := Nat.mul_le_mul (by omega) hbs
        obtain ⟨V, hV⟩ : ∃ V, bd.us = V := ⟨_, rfl⟩
        rw [hV] at HIH hmul hu2 hNb
        obtain ⟨P, hP⟩ : ∃ P, N * V = P := ⟨_, rfl⟩
        rw [hP] at hmul hu2 hNb
        have HB := hid hb
        have q0 := fun (x : Later wr) => (x.below.cell (p := ⟨b, off + j * 6 + 5, none⟩) hbz).trans d5
        clear hb hx hbf hr hr2 hmt hcx hu hrd hrs h1 h3 h4 h5 h6 hbs hV hK hP ih
        go_wp2_with (go_at_call 119; refine (HMM.out).mono ?_; rintro e w' ⟨rfl, rfl⟩)
        refine wp_region_later (by kernel_rfl) (by kernel_rfl) ?_
        repeat (go_big_quiet_step ((go_at_call 101; exact Calls.later (HIH.out _))))
        refine wpQuiet_nil ?_
        rintro _ ⟨⟨w1, hb1⟩, rfl⟩
        try dsimp only
        have HB2 := hid (HB.out.trans (hb1.mono zb))
        clear q0 hb1
        go_wp2
        go_roundw
        case rel => exact ⟨j + (1 + K) + 1, r, u + P, by omega, by go_num, by go_num, HR.out.1, hdr, hsr, by rw [show j + (1 + K) + 1 = j + 1 + K + 1 by omega]; exact HR.out.2, hu2, HB2.out⟩
        case measure => simp [intOf]; omega
end Go.Proofs.Ytihbaieiempjeaa
