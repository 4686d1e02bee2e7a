import Derived.Test.YtjknadnknainbaaGreatDoorMem
import Derived.Test.YtjknadnknainbaaGreatDoorPool
import Derived.Test.YtjknadnknainbaaGreatDoorTicketS
import Derived.Laws.MakeOwn
import Derived.OwnWalk
/- Tickets that lie apart, in the program. -/
namespace Go.Proofs.YtjknadnknainbaaGreatDoor
open Go.RowKit

theorem tk_cells {w : World} {B : Nat} {A : Option Addr} {ts : List Tk} (h : Cells w B A (ints (flatT ts))) {k : Nat} {t : Tk} (ht : ts[k]? = some t) :
    ∃ b off, A = some ⟨b, off, none⟩ ∧ b < B ∧ w.cell? ⟨b, off + k * 2, none⟩ = some (.int .i64 t.f) ∧ w.cell? ⟨b, off + k * 2 + 1, none⟩ = some (.int .i64 t.c) := by
  have hk : k < ts.length := (List.getElem?_eq_some_iff.1 ht).1
  obtain ⟨b, off, hA, hb, hc⟩ := h (by rw [ints_length, flatT_length]; omega)
  refine ⟨b, off, hA, hb, ?_, ?_⟩
  · have := hc (k * 2 + 0) _ (ints_get (flatT_at ht 0 t.f rfl))
    simpa using this
  · have := hc (k * 2 + 1) _ (ints_get (flatT_at ht 1 t.c rfl))
    simpa [Nat.add_assoc] using this
theorem tkIn_at {ts : List Tk} (h : ∀ t ∈ ts, tkIn t = true) {k : Nat} {t : Tk} (ht : ts[k]? = some t) : (0 ≤ t.f ∧ t.f ≤ 1000) ∧ 0 ≤ t.c ∧ t.c ≤ 1000 := by
  have := h t (List.mem_of_getElem? ht)
  unfold tkIn at this
  simp only [Bool.and_eq_true] at this
  exact ⟨inB_iff.1 this.1, inB_iff.1 this.2⟩
set_option maxRecDepth 100000 in
set_option maxHeartbeats 3200000 in
theorem iTickets (A : Option Addr) (c : Nat) (ts : List Tk) (w : World) (hc : Cells w w.heap.size A (ints (flatT ts))) (hcap : ts.length ≤ c) (hn : ts.length ≤ 9223372036854775807) :
    Calls Tryz.prog 74 #[.slice A ts.length c] w fun e w' => e = .returned (.bool (tksOkB ts)) ∧ Below w.heap.size w w' := by
  obtain ⟨n, hnl⟩ : ∃ n, ts.length = n := ⟨_, rfl⟩
  rw [hnl] at hcap ⊢
  by_cases h1 : n ≤ 1000
  · skip
    obtain ⟨r, hr⟩ : ∃ r, tksOkB ts = r := ⟨_, rfl⟩
    rw [hr]
    have HR := hid hr
    have HL := hid hnl
    clear hr hnl
    go_enter Tryz.func74, Tryz.ntmps74
    go_wp2
    go_loopw [14] (fun i wr => ∃ k : Nat, k ≤ n ∧ i = .int .i64 k ∧ Below w.heap.size w wr ∧ ∀ q t, q < k → ts[q]? = some t → tkIn t = true) (fun i _ => n - (intOf i).toNat)
    case atStart => exact ⟨0, Nat.zero_le _, rfl, Below.refl _ _, fun q t hq => absurd hq (by omega)⟩
    case round =>
      obtain ⟨k, hk, rfl, hb, hall⟩ := hrel
      by_cases hlt : k < n
      · skip
        obtain ⟨t, ht⟩ : ∃ t, ts[k]? = some t := ⟨_, List.getElem?_eq_getElem (by have := HL.out; omega)⟩
        obtain ⟨b, off, rfl, hB, c0, c1⟩ := tk_cells hc ht
        have d0 : wr.cell? ⟨b, off + k * 2, none⟩ = some (.int .i64 t.f) := (hb.cell (p := ⟨b, off + k * 2, none⟩) hB).trans c0
        have d1 : wr.cell? ⟨b, off + k * 2 + 1, none⟩ = some (.int .i64 t.c) := (hb.cell (p := ⟨b, off + k * 2 + 1, none⟩) hB).trans c1
        have zr := hb.size
        have hBr : b < wr.heap.size := by omega
        have HB := hid hb
        have HA := hid hall
        have HT := hid ht
        clear hb hall ht c0 c1
        cases h5 : inB t.f 0 1000; rotate_left
        cases h6 : inB t.c 0 1000
        rotate_left
        · skip
          go_wp2_with (go_at_call 65; refine (iWithin _ _ _ _).mono ?_; rintro e w' ⟨rfl, rfl⟩)
          go_roundw
          case rel =>
            refine ⟨k + 1, by omega, by go_num, ?_, ?_⟩
            · have hb := HB.out
              exact belBy
            · intro q x hq hx
              by_cases hqk : q < k
              · exact HA.out q x hqk hx
              · obtain rfl : q = k := by omega
                rw [HT.out] at hx
                cases hx
                simp [tkIn, h5, h6]
          case measure => simp [intOf]; omega
        all_goals
          go_wp2_with (go_at_call 65; refine (iWithin _ _ _ _).mono ?_; rintro e w' ⟨rfl, rfl⟩)
          go_ret
          refine ⟨ret_bool ?_, ?_⟩
          · rw [← HR.out, tksOkB_no]
            intro h
            have := h.2.1 t (List.mem_of_getElem? HT.out)
            first | (simp [tkIn, h5] at this; done) | (simp [tkIn, h6] at this; done)
          · have hb := HB.out
            exact belBy
      · obtain rfl : k = n := by omega
        have HALL : Hid (∀ t ∈ ts, tkIn t = true) := hid fun t ht => by
          obtain ⟨q, hq⟩ := List.getElem?_of_mem ht
          exact hall q t (by have := (List.getElem?_eq_some_iff.1 hq).1; have := HL.out; omega) hq
        clear hall
        go_wp2
        go_loopw [31] (fun i ws => ∃ m : Nat, m ≤ k ∧ i = .int .i64 m ∧ Below w.heap.size w ws ∧ ∀ q p t x, q < m → ts[q]? = some t → ts[p]? = some x → p < q → ¬ tkMeet t x) (fun i _ => k - (intOf i).toNat)
        case atStart => exact ⟨0, Nat.zero_le _, rfl, hb, fun q _ _ _ hq => absurd hq (by omega)⟩
        case round =>
          obtain ⟨m, hm, rfl, hb2, hap⟩ := hrel
          by_cases hlt2 : m < k
          · skip
            obtain ⟨t, ht⟩ : ∃ t, ts[m]? = some t := ⟨_, List.getElem?_eq_getElem (by have := HL.out; omega)⟩
            obtain ⟨b, off, rfl, hB, c0, c1⟩ := tk_cells hc ht
            have d0 : wr.cell? ⟨b, off + m * 2, none⟩ = some (.int .i64 t.f) := (hb2.cell (p := ⟨b, off + m * 2, none⟩) hB).trans c0
            have d1 : wr.cell? ⟨b, off + m * 2 + 1, none⟩ = some (.int .i64 t.c) := (hb2.cell (p := ⟨b, off + m * 2 + 1, none⟩) hB).trans c1
            obtain ⟨⟨t1, t2⟩, t3, t4⟩ := tkIn_at HALL.out ht
            have zr := hb2.size
            have hBr : b < wr.heap.size := by omega
            have HB := hid hb2
            have HA := hid hap
            have HT := hid ht
            have HC := hid hc
            clear hb hb2 hap ht c0 c1 hc
            go_wp2
            go_loopw [40] (fun i wx => ∃ q : Nat, q ≤ m ∧ i = .int .i64 q ∧ Blk wx wr.heap.size 88 #[.int .i64 t.f, .int .i64 t.c] ∧ Below w.heap.size w wx ∧ ∀ p x, p < q → ts[p]? = some x → ¬ tkMeet t x) (fun i _ => m - (intOf i).toNat)
            case atStart =>
              refine ⟨0, Nat.zero_le _, rfl, ?_, ?_, fun p x hp => absurd hp (by omega)⟩
              · exact blkBy
              · have hb := HB.out
                exact belBy
            case round =>
              obtain ⟨q, hq, rfl, kt, hb3, hap3⟩ := hrel
              have ct := kt.cell
              have lt := kt.lt
              by_cases hlt3 : q < m
              · skip
                obtain ⟨x, hx⟩ : ∃ x, ts[q]? = some x := ⟨_, List.getElem?_eq_getElem (by have := HL.out; omega)⟩
                obtain ⟨b', off', e', hB', c0, c1⟩ := tk_cells HC.out hx
                cases e'
                have x0 : wr.cell? ⟨b, off + q * 2, none⟩ = some (.int .i64 x.f) := (hb3.cell (p := ⟨b, off + q * 2, none⟩) hB).trans c0
                have x1 : wr.cell? ⟨b, off + q * 2 + 1, none⟩ = some (.int .i64 x.c) := (hb3.cell (p := ⟨b, off + q * 2 + 1, none⟩) hB).trans c1
                obtain ⟨⟨y1, y2⟩, y3, y4⟩ := tkIn_at HALL.out hx
                have HB3 := hid hb3
                have HA3 := hid hap3
                have HX := hid hx
                have HK := hid kt
                have zr3 := hb3.size
                clear hb3 hap3 hx c0 c1 kt
                by_cases hmt : tkMeet t x
                · obtain ⟨a1, a2, a3, a4⟩ := hmt
                  go_wp2
                  go_ret
                  refine ⟨ret_bool ?_, ?_⟩
                  · rw [← HR.out, tksOkB_no]
                    exact fun h => h.2.2 m q t x HT.out HX.out hlt3 ⟨a1, a2, a3, a4⟩
                  · have hb := HB3.out
                    exact belBy
                · have HM := hid hmt
                  have hway : (0 < t.c ∧ 0 < x.c ∧ t.f < x.f + x.c ∧ ¬ x.f < t.f + t.c) ∨ (0 < t.c ∧ 0 < x.c ∧ ¬ t.f < x.f + x.c) ∨ (0 < t.c ∧ ¬ 0 < x.c) ∨ ¬ 0 < t.c := by
                    unfold tkMeet at hmt
                    omega
                  clear hmt
                  rcases hway with ⟨a1, a2, a3, a4⟩ | ⟨a1, a2, a3⟩ | ⟨a1, a2⟩ | a1
                  all_goals
                    go_wp2
                    go_roundw
                    case rel =>
                      refine ⟨q + 1, by omega, by go_num, ?_, ?_, ?_⟩
                      · have kt := HK.out
                        exact blkBy
                      · have hb := HB3.out
                        exact belBy
                      · intro p x' hp hx'
                        by_cases hpq : p < q
                        · exact HA3.out p x' hpq hx'
                        · obtain rfl : p = q := by omega
                          rw [HX.out] at hx'
                          cases hx'
                          exact HM.out
                    case measure => simp [intOf]; omega
              · obtain rfl : q = m := by omega
                go_wp2
                go_roundw
                case rel =>
                  refine ⟨q + 1, by omega, by go_num, hb3, ?_⟩
                  intro q' p t' x hq' ht' hx hp
                  by_cases hqq : q' < q
                  · exact HA.out q' p t' x hqq ht' hx hp
                  · obtain rfl : q' = q := by omega
                    rw [HT.out] at ht'
                    cases ht'
                    exact hap3 p x hp hx
                case measure => simp [intOf]; omega
          · obtain rfl : m = k := by omega
            go_wp2
            go_ret
            refine ⟨ret_bool ?_, hb2⟩
            rw [← HR.out]
            refine (tksOkB_yes ⟨by have := HL.out; omega, HALL.out, fun i p t x ht hx hp => hap i p t x ?_ ht hx hp⟩).symm
            have := (List.getElem?_eq_some_iff.1 ht).1
            have := HL.out
            omega
  · skip
    have e : tksOkB ts = false := tksOkB_no fun h => h1 (by have := h.1; omega)
    rw [e]
    clear e
    go_enter Tryz.func74, Tryz.ntmps74
    go_wp2
    go_ret
    exact ⟨rfl, Below.refl _ _⟩
end Go.Proofs.YtjknadnknainbaaGreatDoor
/- Tickets that lie apart, in the reference. -/
namespace Go.Proofs.YtjknadnknainbaaGreatDoor
open Go.RowKit

def used (U : Nat → Bool) : List Value := (List.range 2000).map fun q => .bool (U q)
theorem used_length (U : Nat → Bool) : (used U).length = 2000 := by unfold used; rw [List.length_map, List.length_range]
theorem used_get (U : Nat → Bool) {q : Nat} (h : q < 2000) : (used U)[q]? = some (.bool (U q)) := by
  unfold used
  rw [List.getElem?_map, List.getElem?_range h]
  rfl
theorem used_none : used (fun _ => false) = List.replicate 2000 (.bool false) := by
  unfold used
  rw [List.map_const', List.length_range]
theorem used_set (U : Nat → Bool) {p : Nat} (h : p < 2000) : (used U).set p (.bool true) = used (fun q => U q || decide (q = p)) := by
  refine List.ext_getElem? fun q => ?_
  rw [List.getElem?_set]
  by_cases hq : q < 2000
  · rw [used_get _ hq]
    by_cases e : p = q
    · subst e
      rw [if_pos rfl, if_pos (by rw [used_length]; exact h), used_get _ hq, decide_eq_true rfl, Bool.or_true]
    · rw [if_neg e, used_get _ hq]
      have : decide (q = p) = false := by simp; omega
      rw [this, Bool.or_false]
  · have h1 : (used (fun q => U q || decide (q = p)))[q]? = none := List.getElem?_eq_none (by rw [used_length]; omega)
    have h2 : (used U)[q]? = none := List.getElem?_eq_none (by rw [used_length]; omega)
    rw [h1, h2, if_neg (by omega)]
def covB (ts : List Tk) (k : Nat) (q : Nat) : Prop := ∃ i t, i < k ∧ ts[i]? = some t ∧ t.f ≤ q ∧ (q : Int) < t.f + t.c
def apartTo (ts : List Tk) (k : Nat) : Prop := ∀ (i p : Nat) (t x : Tk), i < k → ts[i]? = some t → ts[p]? = some x → p < i → ¬ tkMeet t x
theorem covB_zero (ts : List Tk) (q : Nat) : ¬ covB ts 0 q := fun ⟨_, _, h, _⟩ => absurd h (by omega)
theorem covB_succ {ts : List Tk} {k : Nat} {t : Tk} (ht : ts[k]? = some t) (q : Nat) : covB ts (k + 1) q ↔ covB ts k q ∨ (t.f ≤ q ∧ (q : Int) < t.f + t.c) := by
  constructor
  · rintro ⟨i, x, hi, hx, h1, h2⟩
    by_cases hik : i < k
    · exact Or.inl ⟨i, x, hik, hx, h1, h2⟩
    · obtain rfl : i = k := by omega
      rw [ht] at hx
      cases hx
      exact Or.inr ⟨h1, h2⟩
  · rintro (⟨i, x, hi, hx, h1, h2⟩ | ⟨h1, h2⟩)
    · exact ⟨i, x, by omega, hx, h1, h2⟩
    · exact ⟨k, t, by omega, ht, h1, h2⟩
theorem apartTo_succ {ts : List Tk} {k f : Nat} {c : Int} (ht : ts[k]? = some ⟨f, c⟩) (hin : ∀ i t, i < k → ts[i]? = some t → 0 ≤ t.f) : apartTo ts (k + 1) ↔ apartTo ts k ∧ ∀ q : Nat, (q : Int) < c → ¬ covB ts k (f + q) := by
  constructor
  · refine fun h => ⟨fun i p t x hi => h i p t x (by omega), ?_⟩
    rintro q hq ⟨i, x, hi, hx, h1, h2⟩
    refine h k i ⟨f, c⟩ x (by omega) ht hx hi ?_
    refine ⟨?_, ?_, ?_, ?_⟩
    · show 0 < c
      omega
    · omega
    · show (f : Int) < _
      omega
    · show _ < (f : Int) + c
      omega
  · rintro ⟨h1, h2⟩ i p t x hi hit hpx hpi
    by_cases hik : i < k
    · exact h1 i p t x hik hit hpx hpi
    · obtain rfl : i = k := by omega
      rw [ht] at hit
      cases hit
      rintro ⟨a1, a2, a3, a4⟩
      change 0 < c at a1
      change (f : Int) < _ at a3
      change _ < (f : Int) + c at a4
      have hxf := hin p x hpi hpx
      by_cases hle : x.f ≤ f
      · exact h2 0 (by omega) ⟨p, x, hpi, hpx, by simpa using hle, by simpa using a3⟩
      · refine h2 (x.f.toNat - f) (by omega) ⟨p, x, hpi, hpx, by omega, by omega⟩
theorem infoBool : (Tryz.prog.info? 4).map (fun i => (i.zero, i.size, i.bytes)) = some (some (.bool false), 1, 1) := by kernel_rfl
set_option maxRecDepth 100000 in
set_option maxHeartbeats 3200000 in
theorem sTickets (A : Option Addr) (c : Nat) (ts : List Tk) (w : World) (hc : Cells w w.heap.size A (ints (flatT ts))) (hn : ts.length ≤ 9223372036854775807) :
    Calls Tryz.prog 55 #[.slice A ts.length c] w fun e w' => e = .returned (.bool (tksOkB ts)) ∧ Below w.heap.size w w' := by
  obtain ⟨n, hnl⟩ : ∃ n, ts.length = n := ⟨_, rfl⟩
  rw [hnl] at hn ⊢
  obtain ⟨r, hr⟩ : ∃ r, tksOkB ts = r := ⟨_, rfl⟩
  rw [hr]
  have HR := hid hr
  have HL := hid hnl
  have HC := hid hc
  clear hr hnl hc
  obtain ⟨i0, hi, hz0, hz1, hz2⟩ := info_parts infoBool
  go_enter Tryz.func55, Tryz.ntmps55
  go_wp2_with (at_make; refine wpList_make_full _ rfl _ _ 105 rfl w.heap.size 4 i0 (.bool false) 1 Tryz.underlying105 hi hz0 hz1 _ _ _ _ 2000 rfl rfl rfl rfl (by rw [hz2]; omega) (by unfold maxLen; omega) (Nat.le_refl _) ?_)
  intro w1 hown1 hg1
  have hb1 : Below w.heap.size w w1 := (Below.refl _ _).grown hg1 (Nat.le_refl _) (fun k hk => by cases hk)
  have hsz1 := hb1.size
  have hL : (madeCells #[Value.bool false] 2000).toList = used (fun _ => false) := by
    rw [used_none]; exact toList_madeCells_one _ _
  rw [hL] at hown1
  clear hL hg1 hi hz0 hz1 hz2
  have HO1 := hid hown1
  have HB1 := hid hb1
  clear hown1 hb1
  go_wp2
  go_loopw [5, 4] (fun i o wr => ∃ (k : Nat) (ok : Bool) (U : Nat → Bool), k ≤ n ∧ i = .int .i64 k ∧ o = .bool ok ∧ (ok = true ↔ n ≤ 1000 ∧ apartTo ts k) ∧ (∀ q, U q = true ↔ covB ts k q) ∧ (∀ i t, i < k → ts[i]? = some t → tkIn t = true) ∧ wr.ownsRow w.heap.size 4 1 (.slice (some ⟨w.heap.size, 0, none⟩) 2000 2000) 2000 (used U) ∧ Below w.heap.size w wr) (fun i _ _ => n - (intOf i).toNat)
  case atStart =>
    refine ⟨0, _, fun _ => false, Nat.zero_le _, rfl, rfl, ?_, fun q => ⟨fun h => absurd h (by simp), fun h => absurd h (covB_zero ts q)⟩, fun i t h => absurd h (by omega), HO1.out, HB1.out⟩
    rw [decide_eq_true_iff]
    exact ⟨fun h => ⟨by omega, fun i p t x h => absurd h (by omega)⟩, fun h => by have := h.1; omega⟩
  case round =>
    obtain ⟨k, ok, U, hk, rfl, rfl, hok, hU, hin, hown, hb⟩ := hrel
    have HOK := hid hok
    have HU := hid hU
    have HI := hid hin
    have HO := hid hown
    have HB := hid hb
    have zr := hb.size
    clear hok hU hin hown hb
    cases ok
    · skip
      have hfin : Hid (false = r) := hid <| by
        rw [← HR.out, tksOkB_no]
        intro h
        have h1 := HOK.out.2 ⟨by have := h.1; have := HL.out; omega, fun i p t x _ => h.2.2 i p t x⟩
        cases h1
      by_cases hlt : k < n
      all_goals
        go_wp2
        go_ret
        exact ⟨ret_bool hfin.out, HB.out⟩
    by_cases hlt : k < n
    · skip
      obtain ⟨⟨tf, tc⟩, ht⟩ : ∃ t, ts[k]? = some t := ⟨_, List.getElem?_eq_getElem (by have := HL.out; omega)⟩
      obtain ⟨b, off, rfl, hB, c0, c1⟩ := tk_cells HC.out ht
      have d0 : wr.cell? ⟨b, off + k * 2, none⟩ = some (.int .i64 tf) := (HB.out.cell (p := ⟨b, off + k * 2, none⟩) hB).trans c0
      have d1 : wr.cell? ⟨b, off + k * 2 + 1, none⟩ = some (.int .i64 tc) := (HB.out.cell (p := ⟨b, off + k * 2 + 1, none⟩) hB).trans c1
      have hBr : b < wr.heap.size := by omega
      have HT := hid ht
      have HC0 := hid c0
      have HC1 := hid c1
      clear ht c0 c1
      by_cases h56 : inB tf 0 1000 = true ∧ inB tc 0 1000 = true
      · obtain ⟨h5, h6⟩ := h56
        obtain ⟨h5a, h5b⟩ := inB_iff.1 h5
        obtain ⟨h6a, h6b⟩ := inB_iff.1 h6
        obtain ⟨f, rfl⟩ : ∃ f : Nat, tf = f := ⟨tf.toNat, by omega⟩
        obtain ⟨cc, rfl⟩ : ∃ f : Nat, tc = f := ⟨tc.toNat, by omega⟩
        have hf2 : f ≤ 1000 := by omega
        have hc2 : cc ≤ 1000 := by omega
        go_wp2_with (go_at_call 38; refine (sWithin _ _ _ _).mono ?_; rintro e w' ⟨rfl, rfl⟩)
        clear d0 d1 h5 h6
        go_loopw [6, 4] (fun i o wx => ∃ (m : Nat) (ok : Bool) (V : Nat → Bool), m ≤ cc ∧ i = .int .i64 m ∧ o = .bool ok ∧ (ok = true ↔ ∀ q, q < m → ¬ covB ts k (f + q)) ∧ (∀ q, V q = true ↔ covB ts k q ∨ (f ≤ q ∧ q < f + m)) ∧ wx.ownsRow w.heap.size 4 1 (.slice (some ⟨w.heap.size, 0, none⟩) 2000 2000) 2000 (used V) ∧ Below w.heap.size w wx) (fun i _ _ => cc - (intOf i).toNat)
        case atStart =>
          exact ⟨0, true, U, Nat.zero_le _, rfl, rfl, ⟨fun _ q hq => absurd hq (by omega), fun _ => rfl⟩, fun q => ⟨fun h => Or.inl ((HU.out q).1 h), fun h => h.elim (HU.out q).2 (fun h => absurd h (by omega))⟩, HO.out, HB.out⟩
        case round =>
          obtain ⟨m, ok, V, hm, rfl, rfl, hok, hV, hown, hb⟩ := hrel
          have HOK2 := hid hok
          have HV := hid hV
          have HB2 := hid hb
          have zr2 := hb.size
          have d0 : wr.cell? ⟨b, off + k * 2, none⟩ = some (.int .i64 f) := (hb.cell (p := ⟨b, off + k * 2, none⟩) hB).trans HC0.out
          have d1 : wr.cell? ⟨b, off + k * 2 + 1, none⟩ = some (.int .i64 cc) := (hb.cell (p := ⟨b, off + k * 2 + 1, none⟩) hB).trans HC1.out
          have hBr2 : b < wr.heap.size := by omega
          by_cases hlt2 : m < cc
          · skip
            have hlt2' : (m : Int) < (cc : Int) := by omega
            have hu : wr.cell? ⟨w.heap.size, f + m, none⟩ = some (.bool (V (f + m))) := by
              rw [hown.cellAt (f + m) (by omega)]
              exact used_get V (by omega)
            have hfr := hown.frozenAt (f + m)
            have hst := hown.stored (f + m) (.bool true)
            rw [used_set V (by omega)] at hst
            have HS := hid hst
            clear hok hV hown hb hst
            obtain ⟨vb, hvb⟩ : ∃ v, V (f + m) = v := ⟨_, rfl⟩
            rw [hvb] at hu
            have HVB := hid hvb
            clear hvb
            have hi2 : ((f : Int) + (m : Int)).toNat = f + m := by omega
            have hrel2 : Hid (∀ q : Nat, (V q || decide (q = f + m)) = true ↔ covB ts k q ∨ (f ≤ q ∧ q < f + (m + 1))) := hid fun q => by
              rw [Bool.or_eq_true, HV.out q, decide_eq_true_iff]
              constructor
              · rintro ((h | h) | h)
                · exact Or.inl h
                · exact Or.inr (by omega)
                · exact Or.inr (by omega)
              · rintro (h | h)
                · exact Or.inl (Or.inl h)
                · by_cases e : q = f + m
                  · exact Or.inr e
                  · exact Or.inl (Or.inr (by omega))
            have hok2 : Hid ((ok && !vb) = true ↔ ∀ q, q < m + 1 → ¬ covB ts k (f + q)) := hid <| by
              have h1 := HV.out (f + m)
              rw [HVB.out] at h1
              rw [Bool.and_eq_true, HOK2.out]
              constructor
              · rintro ⟨h2, h3⟩ q hq
                by_cases e : q = m
                · subst e
                  intro h4
                  rw [h1.2 (Or.inl h4)] at h3
                  cases h3
                · exact h2 q (by omega)
              · intro h
                refine ⟨fun q hq => h q (by omega), ?_⟩
                cases hv : vb
                · rfl
                · rcases h1.1 hv with h4 | h4
                  · exact absurd h4 (h m (by omega))
                  · omega
            cases ok
            all_goals
              go_wp2
              go_roundw
              case rel => exact ⟨m + 1, _, _, by omega, by go_num, rfl, hok2.out, hrel2.out, HS.out.1, HB2.out.setCell (Nat.le_refl _) _⟩
              case measure => simp [intOf]; omega
          · obtain rfl : m = cc := by omega
            go_wp2
            go_roundw
            case rel =>
              refine ⟨k + 1, ok, V, by omega, by go_num, rfl, ?_, ?_, ?_, hown, hb⟩
              · have h0 : n ≤ 1000 ∧ apartTo ts k := by simpa using HOK.out
                rw [hok, apartTo_succ HT.out (fun i t hi ht => by
                  have := HI.out i t hi ht
                  simp only [tkIn, Bool.and_eq_true, inB_iff] at this
                  omega)]
                exact ⟨fun h => ⟨h0.1, h0.2, fun q hq => h q (by omega)⟩, fun h q hq => h.2.2 q (by omega)⟩
              · intro q
                rw [hV q, covB_succ HT.out]
                dsimp only
                exact or_congr Iff.rfl (by omega)
              · intro i t hi ht
                by_cases hik : i < k
                · exact HI.out i t hik ht
                · obtain rfl : i = k := by omega
                  rw [HT.out] at ht
                  cases ht
                  simp only [tkIn, Bool.and_eq_true, inB_iff]
                  omega
            case measure => simp [intOf]; omega
      · skip
        have hfin : Hid (false = r) := hid <| by
          rw [← HR.out, tksOkB_no]
          intro h
          have := h.2.1 _ (List.mem_of_getElem? HT.out)
          unfold tkIn at this
          simp only [Bool.and_eq_true] at this
          exact h56 this
        have hway : inB tf 0 1000 = false ∨ (inB tf 0 1000 = true ∧ inB tc 0 1000 = false) := by
          cases h5 : inB tf 0 1000
          · exact Or.inl rfl
          · cases h6 : inB tc 0 1000
            · exact Or.inr ⟨rfl, rfl⟩
            · exact absurd ⟨h5, h6⟩ h56
        clear h56
        rcases hway with h5 | ⟨h5, h6⟩
        all_goals
          go_wp2_with (go_at_call 38; refine (sWithin _ _ _ _).mono ?_; rintro e w' ⟨rfl, rfl⟩)
          go_ret
          exact ⟨ret_bool hfin.out, HB.out⟩
    · obtain rfl : k = n := by omega
      have hfin : Hid (true = r) := hid <| by
        rw [← HR.out]
        have h := HOK.out.1 rfl
        have hl := HL.out
        refine (tksOkB_yes ⟨by omega, fun t ht => ?_, fun i p t x ht hx hp => h.2 i p t x ?_ ht hx hp⟩).symm
        · obtain ⟨q, hq⟩ := List.getElem?_of_mem ht
          exact HI.out q t (by have := (List.getElem?_eq_some_iff.1 hq).1; omega) hq
        · have := (List.getElem?_eq_some_iff.1 ht).1
          omega
      go_wp2
      go_ret
      exact ⟨ret_bool hfin.out, HB.out⟩
end Go.Proofs.YtjknadnknainbaaGreatDoor
