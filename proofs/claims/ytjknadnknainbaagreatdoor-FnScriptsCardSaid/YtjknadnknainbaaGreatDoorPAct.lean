/- ParseAct, in the program. -/
import Derived.Test.YtjknadnknainbaaGreatDoorMem
import Derived.Test.YtjknadnknainbaaGreatDoorPAct1
import Derived.Test.YtjknadnknainbaaGreatDoorPAct3
namespace Go.Proofs.YtjknadnknainbaaGreatDoor
open Go.RowKit

def pActB (l : List UInt8) : Bool := sfB l && paB (flds l)
def pActV (l : List UInt8) : Value := if sfB l then paV (flds l) else .agg #[.int .i64 0, .int .i64 0, .int .i64 0, .int .i64 0]
theorem pAct_no {l : List UInt8} (h : sfB l = false) : pActB l = false ∧ pActV l = .agg #[.int .i64 0, .int .i64 0, .int .i64 0, .int .i64 0] := by
  unfold pActB pActV
  rw [h]
  exact ⟨rfl, rfl⟩
theorem pAct_ok {l : List UInt8} (h : sfB l = true) : pActB l = paB (flds l) ∧ pActV l = paV (flds l) := by
  unfold pActB pActV
  rw [h, Bool.true_and]
  exact ⟨rfl, rfl⟩
set_option maxHeartbeats 3200000 in
theorem iPActNo (l : List UInt8) (w : World) (hl : l.length ≤ 1048576) (he : Env w) (hs : sfB l = false) :
    Calls Tryz.prog 23 #[.string ⟨l.toArray⟩] w fun e w' => e = .returned (.tuple #[pActV l, .bool (pActB l)]) ∧ Below w.heap.size w w' := by
  have HE := hid he
  have HSP := hid (fun w he => iSplitFields l w hl he)
  have HV := hid (pAct_no hs)
  rw [hs] at HSP
  clear he hs
  go_enter Tryz.func23, Tryz.ntmps23
  have b_0 := (Below.refl w.heap.size w)
  have s_0 := b_0.size
  go_upto_region 1 with fail
  refine wp_forget1 (w0 := w) (B := w.heap.size) (b0 := w.heap.size) (t0 := 30) (c0 := #[.int .i64 0, .int .i64 0, .int .i64 0, .int .i64 0]) ?_ ?_ ?_
  (focus exact blkcBy)
  (focus (exact belBy))
  intro w1 r_1 hX1
  have sX1 := hX1.size
  have r_lt := r_1.lt
  have b_1 := b_0.trans (hX1.mono (by omega))
  clear b_0 hX1
  have cell_r := r_1.cell
  have froz_r := r_1.frozen
  have lt_r := r_1.lt
  have HB1 := hid b_1
  have HR1 := hid r_1
  clear b_1 cell_r froz_r r_1
  go_wp2_with fail
  refine (HSP.out _ (HE.out.step HB1.out HE.out)).mono ?_
  rintro e w2 ⟨n, A, c, rfl, hn, hb2⟩
  clear hn
  have hb := HB1.out.trans (hb2.mono HB1.out.size)
  have hr := Blk.past hb2 HR1.out
  clear hb2
  have b_10 := hb
  have s_10 := b_10.size
  have r_10 := hr
  clear hr
  have r_lt := r_10.lt
  have cell_r := r_10.cell
  have froz_r := r_10.frozen
  have lt_r := r_10.lt
  go_wp2_with fail
  ((try simp only [Exit.inBlock, Exit.then]); apply bodyPost_ret0; focus ((try simp only [results, Tryz.results23]); (try go_simp); (try rfl)))
  refine ⟨by rw [HV.out.1, HV.out.2], ?_⟩
  exact belBy
set_option maxHeartbeats 3200000 in
theorem iPActNil (l : List UInt8) (w : World) (hl : l.length ≤ 1048576) (he : Env w) (hs : sfB l = true) (hf : flds l = []) :
    Calls Tryz.prog 23 #[.string ⟨l.toArray⟩] w fun e w' => e = .returned (.tuple #[pActV l, .bool (pActB l)]) ∧ Below w.heap.size w w' := by
  have HE := hid he
  have HSP := hid (fun w he => iSplitFields l w hl he)
  have HV := hid (pAct_ok hs)
  rw [hs] at HSP
  rw [hf] at HSP HV
  clear he hs hf
  go_enter Tryz.func23, Tryz.ntmps23
  have b_0 := (Below.refl w.heap.size w)
  have s_0 := b_0.size
  go_upto_region 1 with fail
  refine wp_forget1 (w0 := w) (B := w.heap.size) (b0 := w.heap.size) (t0 := 30) (c0 := #[.int .i64 0, .int .i64 0, .int .i64 0, .int .i64 0]) ?_ ?_ ?_
  (focus exact blkcBy)
  (focus (exact belBy))
  intro w1 r_1 hX1
  have sX1 := hX1.size
  have r_lt := r_1.lt
  have b_1 := b_0.trans (hX1.mono (by omega))
  clear b_0 hX1
  have cell_r := r_1.cell
  have froz_r := r_1.frozen
  have lt_r := r_1.lt
  have HB1 := hid b_1
  have HR1 := hid r_1
  clear b_1 cell_r froz_r r_1
  go_wp2_with fail
  refine (HSP.out _ (HE.out.step HB1.out HE.out)).mono ?_
  rintro e w2 ⟨n, A, c, rfl, hn, hb2⟩
  have hh := (hn trivial).1
  clear hn
  replace hh : n = 0 := hh
  subst hh
  have hb := HB1.out.trans (hb2.mono HB1.out.size)
  have hr := Blk.past hb2 HR1.out
  clear hb2
  have b_10 := hb
  have s_10 := b_10.size
  have r_10 := hr
  clear hr
  have r_lt := r_10.lt
  have cell_r := r_10.cell
  have froz_r := r_10.frozen
  have lt_r := r_10.lt
  go_wp2_with fail
  ((try simp only [Exit.inBlock, Exit.then]); apply bodyPost_ret0; focus ((try simp only [results, Tryz.results23]); (try go_simp); (try rfl)))
  refine ⟨by rw [HV.out.1, HV.out.2]; rfl, ?_⟩
  exact belBy
theorem iParseAct (l : List UInt8) (w : World) (hl : l.length ≤ 1048576) (he : Env w) :
    Calls Tryz.prog 23 #[.string ⟨l.toArray⟩] w fun e w' => e = .returned (.tuple #[pActV l, .bool (pActB l)]) ∧ Below w.heap.size w w' := by
  cases hs : sfB l
  · exact iPActNo l w hl he hs
  · cases hf : flds l with
    | nil => exact iPActNil l w hl he hs hf
    | cons x ws =>
      rw [(pAct_ok hs).1, (pAct_ok hs).2]
      by_cases hx : x = wAdd
      · exact iPAct3 l w hl he hs x ws hf hx
      · exact iPAct1 l w hl he hs x ws hf hx
theorem act_len {k i d n : Int} (h : actOkB k i d n = true) : (actTxt k i d n).length ≤ 100 ∧ ∀ b ∈ actTxt k i d n, byteOk b = true := by
  have hi : ∀ {z : Int}, 0 ≤ z ∧ z ≤ 1000 → ∀ b ∈ Lib.itoa z, byteOk b = true := fun {z} hz b hb => by
    obtain ⟨m, rfl⟩ : ∃ m : Nat, z = m := ⟨z.toNat, by omega⟩
    rw [Lib.itoa_nonneg] at hb
    have := dec_digits m b hb
    unfold byteOk
    simp
    omega
  rcases act_kinds h with ⟨rfl, h1, h2, h3⟩ | ⟨rfl, h3⟩ | ⟨rfl, h3⟩ | rfl
  · have l1 := itoa_le h1
    have l2 := itoa_le h2
    have l3 := itoa_le h3
    rw [actTxt_add h]
    refine ⟨by simp only [List.length_append, List.length_cons, List.length_nil]; omega, fun b hb => ?_⟩
    simp only [List.mem_append] at hb
    rcases hb with ((((hb | hb) | hb) | hb) | hb) | hb
    · revert b; decide
    · exact hi h1 b hb
    · revert b; decide
    · exact hi h2 b hb
    · revert b; decide
    · exact hi h3 b hb
  · have l3 := itoa_le h3
    rw [actTxt_step h]
    refine ⟨by simp only [List.length_append, List.length_cons, List.length_nil]; omega, fun b hb => ?_⟩
    simp only [List.mem_append] at hb
    rcases hb with hb | hb
    · revert b; decide
    · exact hi h3 b hb
  · have l3 := itoa_le h3
    rw [actTxt_res h]
    refine ⟨by simp only [List.length_append, List.length_cons, List.length_nil]; omega, fun b hb => ?_⟩
    simp only [List.mem_append] at hb
    rcases hb with hb | hb
    · revert b; decide
    · exact hi h3 b hb
  · rw [actTxt_crash h]
    exact ⟨by decide, by decide⟩
theorem act_sf {k i d n : Int} (h : actOkB k i d n = true) : sfB (actTxt k i d n) = true := by
  obtain ⟨h1, h2⟩ := act_len h
  have h3 : (flds (actTxt k i d n)).length ≤ 24 := by
    rw [act_flds h]
    unfold actWs
    split
    · simp
    · split
      · simp
      · split <;> simp
  unfold sfB
  rw [decide_eq_true (by omega), decide_eq_true h3, List.all_eq_true.2 h2]
  rfl
theorem pAct_back {k i d n : Int} (h : actOkB k i d n = true) : pActB (actTxt k i d n) = true ∧ pActV (actTxt k i d n) = .agg #[.int .i64 k, .int .i64 i, .int .i64 d, .int .i64 n] := by
  rw [(pAct_ok (act_sf h)).1, (pAct_ok (act_sf h)).2]
  exact act_back h
theorem iParseBack (k i d n : Int) (w : World) (he : Env w) (h : actOkB k i d n = true) :
    Calls Tryz.prog 23 #[.string ⟨(actTxt k i d n).toArray⟩] w fun e w' => e = .returned (.tuple #[.agg #[.int .i64 k, .int .i64 i, .int .i64 d, .int .i64 n], .bool true]) ∧ Below w.heap.size w w' := by
  have h2 := iParseAct (actTxt k i d n) w (by have := (act_len h).1; omega) he
  rw [(pAct_back h).1, (pAct_back h).2] at h2
  exact h2
end Go.Proofs.YtjknadnknainbaaGreatDoor
