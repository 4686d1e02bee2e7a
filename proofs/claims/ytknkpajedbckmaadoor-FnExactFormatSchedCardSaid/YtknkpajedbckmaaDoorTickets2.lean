/- Tickets that lie apart, in the reference. -/
import Derived.Test.YtknkpajedbckmaaDoorTickets
import Derived.Laws.MakeOwn
import Derived.OwnWalk
namespace Go.Proofs.YtknkpajedbckmaaDoor
open Go.RowKit

def used (U : Nat → Bool) : List Value := (List.range 2000).map fun q => .bool (U q)
theorem used_length (U : Nat → Bool) : (used U).length = 2000 := by unfold used; rw [List.length_map, List.length_range]
theorem used_get (U : Nat → Bool) {q : Nat} (h : q < 2000) : (used U)[q]? = some (.bool (U q)) := by
  unfold used
  rw [List.getElem?_map, List.getElem?_range h]
  rfl
theorem used_none : used (fun _ => false) = List.replicate 2000 (.bool false) := by
  unfold used
  rw [List.map_const', List.length_range]
theorem used_set (U : Nat → Bool) {p : Nat} (h : p < 2000) : (used U).set p (.bool true) = used (fun q => U q || decide (q = p)) := by
  refine List.ext_getElem? fun q => ?_
  rw [List.getElem?_set]
  by_cases hq : q < 2000
  · rw [used_get _ hq]
    by_cases e : p = q
    · subst e
      rw [if_pos rfl, if_pos (by rw [used_length]; exact h), used_get _ hq, decide_eq_true rfl, Bool.or_true]
    · rw [if_neg e, used_get _ hq]
      have : decide (q = p) = false := by simp; omega
      rw [this, Bool.or_false]
  · have h1 : (used (fun q => U q || decide (q = p)))[q]? = none := List.getElem?_eq_none (by rw [used_length]; omega)
    have h2 : (used U)[q]? = none := List.getElem?_eq_none (by rw [used_length]; omega)
    rw [h1, h2, if_neg (by omega)]
def covB (ts : List Tk) (k : Nat) (q : Nat) : Prop := ∃ i t, i < k ∧ ts[i]? = some t ∧ t.f ≤ q ∧ (q : Int) < t.f + t.c
def apartTo (ts : List Tk) (k : Nat) : Prop := ∀ (i p : Nat) (t x : Tk), i < k → ts[i]? = some t → ts[p]? = some x → p < i → ¬ tkMeet t x
theorem covB_zero (ts : List Tk) (q : Nat) : ¬ covB ts 0 q := fun ⟨_, _, h, _⟩ => absurd h (by omega)
theorem covB_succ {ts : List Tk} {k : Nat} {t : Tk} (ht : ts[k]? = some t) (q : Nat) : covB ts (k + 1) q ↔ covB ts k q ∨ (t.f ≤ q ∧ (q : Int) < t.f + t.c) := by
  constructor
  · rintro ⟨i, x, hi, hx, h1, h2⟩
    by_cases hik : i < k
    · exact Or.inl ⟨i, x, hik, hx, h1, h2⟩
    · obtain rfl : i = k := by omega
      rw [ht] at hx
      cases hx
      exact Or.inr ⟨h1, h2⟩
  · rintro (⟨i, x, hi, hx, h1, h2⟩ | ⟨h1, h2⟩)
    · exact ⟨i, x, by omega, hx, h1, h2⟩
    · exact ⟨k, t, by omega, ht, h1, h2⟩
theorem apartTo_succ {ts : List Tk} {k f : Nat} {c : Int} (ht : ts[k]? = some ⟨f, c⟩) (hin : ∀ i t, i < k → ts[i]? = some t → 0 ≤ t.f) : apartTo ts (k + 1) ↔ apartTo ts k ∧ ∀ q : Nat, (q : Int) < c → ¬ covB ts k (f + q) := by
  constructor
  · refine fun h => ⟨fun i p t x hi => h i p t x (by omega), ?_⟩
    rintro q hq ⟨i, x, hi, hx, h1, h2⟩
    refine h k i ⟨f, c⟩ x (by omega) ht hx hi ?_
    refine ⟨?_, ?_, ?_, ?_⟩
    · show 0 < c
      omega
    · omega
    · show (f : Int) < _
      omega
    · show _ < (f : Int) + c
      omega
  · rintro ⟨h1, h2⟩ i p t x hi hit hpx hpi
    by_cases hik : i < k
    · exact h1 i p t x hik hit hpx hpi
    · obtain rfl : i = k := by omega
      rw [ht] at hit
      cases hit
      rintro ⟨a1, a2, a3, a4⟩
      change 0 < c at a1
      change (f : Int) < _ at a3
      change _ < (f : Int) + c at a4
      have hxf := hin p x hpi hpx
      by_cases hle : x.f ≤ f
      · exact h2 0 (by omega) ⟨p, x, hpi, hpx, by simpa using hle, by simpa using a3⟩
      · refine h2 (x.f.toNat - f) (by omega) ⟨p, x, hpi, hpx, by omega, by omega⟩
theorem infoBool : (Tryd.prog.info? 4).map (fun i => (i.zero, i.size, i.bytes)) = some (some (.bool false), 1, 1) := by kernel_rfl
set_option maxRecDepth 100000 in
set_option maxHeartbeats 3200000 in
theorem sTickets (A : Option Addr) (c : Nat) (ts : List Tk) (w : World) (hc : Cells w w.heap.size A (ints (flatT ts))) (hn : ts.length ≤ 9223372036854775807) :
    Calls Tryd.prog 44 #[.slice A ts.length c] w fun e w' => e = .returned (.bool (tksOkB ts)) ∧ Below w.heap.size w w' := by
  obtain ⟨n, hnl⟩ : ∃ n, ts.length = n := ⟨_, rfl⟩
  rw [hnl] at hn ⊢
  obtain ⟨r, hr⟩ : ∃ r, tksOkB ts = r := ⟨_, rfl⟩
  rw [hr]
  have HR := hid hr
  have HL := hid hnl
  have HC := hid hc
  clear hr hnl hc
  obtain ⟨i0, hi, hz0, hz1, hz2⟩ := info_parts infoBool
  go_enter Tryd.func44, Tryd.ntmps44
  go_wp2_with (at_make; refine wpList_make_full _ rfl _ _ 83 rfl w.heap.size 4 i0 (.bool false) 1 Tryd.underlying83 hi hz0 hz1 _ _ _ _ 2000 rfl rfl rfl rfl (by rw [hz2]; omega) (by unfold maxLen; omega) (Nat.le_refl _) ?_)
  intro w1 hown1 hg1
  have hb1 : Below w.heap.size w w1 := (Below.refl _ _).grown hg1 (Nat.le_refl _) (fun k hk => by cases hk)
  have hsz1 := hb1.size
  have hL : (madeCells #[Value.bool false] 2000).toList = used (fun _ => false) := by
    rw [used_none]; exact toList_madeCells_one _ _
  rw [hL] at hown1
  clear hL hg1 hi hz0 hz1 hz2
  have HO1 := hid hown1
  have HB1 := hid hb1
  clear hown1 hb1
  go_wp2
  go_loopw [5, 4] (fun i o wr => ∃ (k : Nat) (ok : Bool) (U : Nat → Bool), k ≤ n ∧ i = .int .i64 k ∧ o = .bool ok ∧ (ok = true ↔ n ≤ 1000 ∧ apartTo ts k) ∧ (∀ q, U q = true ↔ covB ts k q) ∧ (∀ i t, i < k → ts[i]? = some t → tkIn t = true) ∧ wr.ownsRow w.heap.size 4 1 (.slice (some ⟨w.heap.size, 0, none⟩) 2000 2000) 2000 (used U) ∧ Below w.heap.size w wr) (fun i _ _ => n - (intOf i).toNat)
  case atStart =>
    refine ⟨0, _, fun _ => false, Nat.zero_le _, rfl, rfl, ?_, fun q => ⟨fun h => absurd h (by simp), fun h => absurd h (covB_zero ts q)⟩, fun i t h => absurd h (by omega), HO1.out, HB1.out⟩
    rw [decide_eq_true_iff]
    exact ⟨fun h => ⟨by omega, fun i p t x h => absurd h (by omega)⟩, fun h => by have := h.1; omega⟩
  case round =>
    obtain ⟨k, ok, U, hk, rfl, rfl, hok, hU, hin, hown, hb⟩ := hrel
    have HOK := hid hok
    have HU := hid hU
    have HI := hid hin
    have HO := hid hown
    have HB := hid hb
    have zr := hb.size
    clear hok hU hin hown hb
    cases ok
    · skip
      have hfin : Hid (false = r) := hid <| by
        rw [← HR.out, tksOkB_no]
        intro h
        have h1 := HOK.out.2 ⟨by have := h.1; have := HL.out; omega, fun i p t x _ => h.2.2 i p t x⟩
        cases h1
      by_cases hlt : k < n
      all_goals
        go_wp2
        go_ret
        exact ⟨ret_bool hfin.out, HB.out⟩
    by_cases hlt : k < n
    · skip
      obtain ⟨⟨tf, tc⟩, ht⟩ : ∃ t, ts[k]? = some t := ⟨_, List.getElem?_eq_getElem (by have := HL.out; omega)⟩
      obtain ⟨b, off, rfl, hB, c0, c1⟩ := tk_cells HC.out ht
      have d0 : wr.cell? ⟨b, off + k * 2, none⟩ = some (.int .i64 tf) := (HB.out.cell (p := ⟨b, off + k * 2, none⟩) hB).trans c0
      have d1 : wr.cell? ⟨b, off + k * 2 + 1, none⟩ = some (.int .i64 tc) := (HB.out.cell (p := ⟨b, off + k * 2 + 1, none⟩) hB).trans c1
      have hBr : b < wr.heap.size := by omega
      have HT := hid ht
      have HC0 := hid c0
      have HC1 := hid c1
      clear ht c0 c1
      by_cases h56 : inB tf 0 1000 = true ∧ inB tc 0 1000 = true
      · obtain ⟨h5, h6⟩ := h56
        obtain ⟨h5a, h5b⟩ := inB_iff.1 h5
        obtain ⟨h6a, h6b⟩ := inB_iff.1 h6
        obtain ⟨f, rfl⟩ : ∃ f : Nat, tf = f := ⟨tf.toNat, by omega⟩
        obtain ⟨cc, rfl⟩ : ∃ f : Nat, tc = f := ⟨tc.toNat, by omega⟩
        have hf2 : f ≤ 1000 := by omega
        have hc2 : cc ≤ 1000 := by omega
        go_wp2_with (go_at_call 39; refine (sWithin _ _ _ _).mono ?_; rintro e w' ⟨rfl, rfl⟩)
        clear d0 d1 h5 h6
        go_loopw [6, 4] (fun i o wx => ∃ (m : Nat) (ok : Bool) (V : Nat → Bool), m ≤ cc ∧ i = .int .i64 m ∧ o = .bool ok ∧ (ok = true ↔ ∀ q, q < m → ¬ covB ts k (f + q)) ∧ (∀ q, V q = true ↔ covB ts k q ∨ (f ≤ q ∧ q < f + m)) ∧ wx.ownsRow w.heap.size 4 1 (.slice (some ⟨w.heap.size, 0, none⟩) 2000 2000) 2000 (used V) ∧ Below w.heap.size w wx) (fun i _ _ => cc - (intOf i).toNat)
        case atStart =>
          exact ⟨0, true, U, Nat.zero_le _, rfl, rfl, ⟨fun _ q hq => absurd hq (by omega), fun _ => rfl⟩, fun q => ⟨fun h => Or.inl ((HU.out q).1 h), fun h => h.elim (HU.out q).2 (fun h => absurd h (by omega))⟩, HO.out, HB.out⟩
        case round =>
          obtain ⟨m, ok, V, hm, rfl, rfl, hok, hV, hown, hb⟩ := hrel
          have HOK2 := hid hok
          have HV := hid hV
          have HB2 := hid hb
          have zr2 := hb.size
          have d0 : wr.cell? ⟨b, off + k * 2, none⟩ = some (.int .i64 f) := (hb.cell (p := ⟨b, off + k * 2, none⟩) hB).trans HC0.out
          have d1 : wr.cell? ⟨b, off + k * 2 + 1, none⟩ = some (.int .i64 cc) := (hb.cell (p := ⟨b, off + k * 2 + 1, none⟩) hB).trans HC1.out
          have hBr2 : b < wr.heap.size := by omega
          by_cases hlt2 : m < cc
          · skip
            have hlt2' : (m : Int) < (cc : Int) := by omega
            have hu : wr.cell? ⟨w.heap.size, f + m, none⟩ = some (.bool (V (f + m))) := by
              rw [hown.cellAt (f + m) (by omega)]
              exact used_get V (by omega)
            have hfr := hown.frozenAt (f + m)
            have hst := hown.stored (f + m) (.bool true)
            rw [used_set V (by omega)] at hst
            have HS := hid hst
            clear hok hV hown hb hst
            obtain ⟨vb, hvb⟩ : ∃ v, V (f + m) = v := ⟨_, rfl⟩
            rw [hvb] at hu
            have HVB := hid hvb
            clear hvb
            have hi2 : ((f : Int) + (m : Int)).toNat = f + m := by omega
            have hrel2 : Hid (∀ q : Nat, (V q || decide (q = f + m)) = true ↔ covB ts k q ∨ (f ≤ q ∧ q < f + (m + 1))) := hid fun q => by
              rw [Bool.or_eq_true, HV.out q, decide_eq_true_iff]
              constructor
              · rintro ((h | h) | h)
                · exact Or.inl h
                · exact Or.inr (by omega)
                · exact Or.inr (by omega)
              · rintro (h | h)
                · exact Or.inl (Or.inl h)
                · by_cases e : q = f + m
                  · exact Or.inr e
                  · exact Or.inl (Or.inr (by omega))
            have hok2 : Hid ((ok && !vb) = true ↔ ∀ q, q < m + 1 → ¬ covB ts k (f + q)) := hid <| by
              have h1 := HV.out (f + m)
              rw [HVB.out] at h1
              rw [Bool.and_eq_true, HOK2.out]
              constructor
              · rintro ⟨h2, h3⟩ q hq
                by_cases e : q = m
                · subst e
                  intro h4
                  rw [h1.2 (Or.inl h4)] at h3
                  cases h3
                · exact h2 q (by omega)
              · intro h
                refine ⟨fun q hq => h q (by omega), ?_⟩
                cases hv : vb
                · rfl
                · rcases h1.1 hv with h4 | h4
                  · exact absurd h4 (h m (by omega))
                  · omega
            cases ok
            all_goals
              go_wp2
              go_roundw
              case rel => exact ⟨m + 1, _, _, by omega, by go_num, rfl, hok2.out, hrel2.out, HS.out.1, HB2.out.setCell (Nat.le_refl _) _⟩
              case measure => simp [intOf]; omega
          · obtain rfl : m = cc := by omega
            go_wp2
            go_roundw
            case rel =>
              refine ⟨k + 1, ok, V, by omega, by go_num, rfl, ?_, ?_, ?_, hown, hb⟩
              · have h0 : n ≤ 1000 ∧ apartTo ts k := by simpa using HOK.out
                rw [hok, apartTo_succ HT.out (fun i t hi ht => by
                  have := HI.out i t hi ht
                  simp only [tkIn, Bool.and_eq_true, inB_iff] at this
                  omega)]
                exact ⟨fun h => ⟨h0.1, h0.2, fun q hq => h q (by omega)⟩, fun h q hq => h.2.2 q (by omega)⟩
              · intro q
                rw [hV q, covB_succ HT.out]
                dsimp only
                exact or_congr Iff.rfl (by omega)
              · intro i t hi ht
                by_cases hik : i < k
                · exact HI.out i t hik ht
                · obtain rfl : i = k := by omega
                  rw [HT.out] at ht
                  cases ht
                  simp only [tkIn, Bool.and_eq_true, inB_iff]
                  omega
            case measure => simp [intOf]; omega
      · skip
        have hfin : Hid (false = r) := hid <| by
          rw [← HR.out, tksOkB_no]
          intro h
          have := h.2.1 _ (List.mem_of_getElem? HT.out)
          unfold tkIn at this
          simp only [Bool.and_eq_true] at this
          exact h56 this
        have hway : inB tf 0 1000 = false ∨ (inB tf 0 1000 = true ∧ inB tc 0 1000 = false) := by
          cases h5 : inB tf 0 1000
          · exact Or.inl rfl
          · cases h6 : inB tc 0 1000
            · exact Or.inr ⟨rfl, rfl⟩
            · exact absurd ⟨h5, h6⟩ h56
        clear h56
        rcases hway with h5 | ⟨h5, h6⟩
        all_goals
          go_wp2_with (go_at_call 39; refine (sWithin _ _ _ _).mono ?_; rintro e w' ⟨rfl, rfl⟩)
          go_ret
          exact ⟨ret_bool hfin.out, HB.out⟩
    · obtain rfl : k = n := by omega
      have hfin : Hid (true = r) := hid <| by
        rw [← HR.out]
        have h := HOK.out.1 rfl
        have hl := HL.out
        refine (tksOkB_yes ⟨by omega, fun t ht => ?_, fun i p t x ht hx hp => h.2 i p t x ?_ ht hx hp⟩).symm
        · obtain ⟨q, hq⟩ := List.getElem?_of_mem ht
          exact HI.out q t (by have := (List.getElem?_eq_some_iff.1 hq).1; omega) hq
        · have := (List.getElem?_eq_some_iff.1 ht).1
          omega
      go_wp2
      go_ret
      exact ⟨ret_bool hfin.out, HB.out⟩
end Go.Proofs.YtknkpajedbckmaaDoor
