/- ParseUint, in the program: strconv.Atoi by the library's own contracts. -/
import Derived.Test.YtceboblhpglofaaDoorFmtAct
import Derived.Test.YtceboblhpglofaaDoorNumP
import Derived.Lib.AtoiErrMem
namespace Go.Proofs.YtceboblhpglofaaDoor
open Go.RowKit

theorem var_below {w w' : World} {b : Nat} {name : String} {cs : Array Value} (h : w.var? Tryd.prog name = some cs) (hb : Below b w w') (hg : ∀ g, Tryd.prog.globalNamed name = some g → g < b) : w'.var? Tryd.prog name = some cs := by
  unfold World.var? at h ⊢
  rcases hq : Tryd.prog.globalNamed name with _ | g
  · rw [hq] at h
    simp at h
  · rw [hq] at h
    simp only [Option.bind_some] at h ⊢
    rw [hb.block g (hg g hq)]
    exact h
theorem var_lt {w : World} {name : String} {cs : Array Value} (h : w.var? Tryd.prog name = some cs) : ∀ g, Tryd.prog.globalNamed name = some g → g < w.heap.size := by
  intro g hq
  unfold World.var? at h
  rw [hq] at h
  simp only [Option.bind_some] at h
  rcases Nat.lt_or_ge g w.heap.size with h' | h'
  · exact h'
  · rw [Array.getElem?_eq_none h'] at h; cases h
/-- What the library's functions read of the library's own variables. -/
structure Env (w : World) : Prop where
  tab : Tab w
  syn : ∃ tp p, w.var? Tryd.prog "strconv.ErrSyntax" = some #[.iface tp p]
  rng : ∃ tp p, w.var? Tryd.prog "strconv.ErrRange" = some #[.iface tp p]
  max : ∃ m, w.cell? ⟨2, 0, none⟩ = some (.int .i64 m)
  lt : 2 < w.heap.size
theorem Env.step {w0 w w' : World} (h : Env w) (hb : Below w0.heap.size w w') (h0 : Env w0) : Env w' := by
  obtain ⟨tp, p, h1⟩ := h.syn
  obtain ⟨tp', p', h2⟩ := h.rng
  obtain ⟨m, h3⟩ := h.max
  obtain ⟨_, _, g1⟩ := h0.syn
  obtain ⟨_, _, g2⟩ := h0.rng
  exact ⟨h.tab.step hb h0.tab, ⟨tp, p, var_below h1 hb (var_lt g1)⟩, ⟨tp', p', var_below h2 hb (var_lt g2)⟩, ⟨m, (hb.cell (p := ⟨2, 0, none⟩) h0.lt).trans h3⟩, Nat.lt_of_lt_of_le h.lt hb.size⟩
theorem size_le {l : List UInt8} {n : Nat} (h : l.length ≤ n) : (ByteArray.mk l.toArray).size ≤ n := by
  show l.toArray.size ≤ n
  rw [List.size_toArray]
  exact h
/-- strconv.Atoi at every text: a number and no error, or an error. -/
theorem iAtoi (l : List UInt8) (w : World) (hl : l.length ≤ 100000) (he : Env w) :
    Calls Tryd.prog 28 #[.string ⟨l.toArray⟩] w fun e w' => ((∃ v, Lib.atoiAll l = .ok v ∧ e = .returned (.tuple #[.int .i64 v, .nilIface])) ∨ ((∀ v, Lib.atoiAll l ≠ .ok v) ∧ ∃ x t p, e = .returned (.tuple #[.int .i64 x, .iface t p]))) ∧ Below w.heap.size w w' := by
  have hs := size_le (Nat.le_trans hl (show 100000 ≤ 281474976710656 by decide))
  rcases h : Lib.atoiAll l with v | _ | _
  · refine (Tryd.strconv_Atoi_ok ⟨l.toArray⟩ (Nat.le_trans hs (by decide)) v h w).mono ?_
    rintro e w' ⟨he, hw⟩
    refine ⟨.inl ⟨v, rfl, he⟩, ?_⟩
    rcases hw with rfl | ⟨t, rfl⟩
    · exact Below.refl _ _
    · exact Lib.bytesWorld_below _ _ _
  · obtain ⟨tp, p, h1⟩ := he.syn
    refine (Tryd.strconv_Atoi_syntax_var ⟨l.toArray⟩ hs (fun v hv => by have e := h.symm.trans hv; cases e) (fun hv => by have e := h.symm.trans hv; cases e) tp p w h1).mono ?_
    rintro e w' ⟨N, he, _, _, hb⟩
    exact ⟨.inr ⟨(fun v hv => by cases hv), _, _, _, he⟩, hb⟩
  · obtain ⟨tp, p, h1⟩ := he.rng
    refine (Tryd.strconv_Atoi_range_var ⟨l.toArray⟩ hs h tp p w h1).mono ?_
    rintro e w' ⟨N, he, _, _, hb⟩
    exact ⟨.inr ⟨(fun v hv => by cases hv), _, _, _, he⟩, hb⟩
set_option maxHeartbeats 1600000 in
theorem iParseUint (l : List UInt8) (w : World) (hl : l.length ≤ 100000) (he : Env w) :
    Calls Tryd.prog 17 #[.string ⟨l.toArray⟩] w fun e w' => e = .returned (.tuple #[.int .i64 (puN l), .bool (puB l)]) ∧ Below w.heap.size w w' := by
  have HE := hid he
  have HA := hid (fun w he => iAtoi l w hl he)
  clear he
  go_enter Tryd.func17, Tryd.ntmps17
  go_wp2_with fail
  refine (HA.out _ HE.out).mono ?_
  rintro e w1 ⟨hv, hb1⟩
  have HE1 := hid (HE.out.step hb1 HE.out)
  have HB := hid hb1
  clear hb1
  rcases hv with ⟨v, hv, rfl⟩ | ⟨hno, x, t, p, rfl⟩
  · by_cases h0 : v < 0
    · have hb := puB_no (l := l) (fun u hu => by rw [hv] at hu; cases hu; omega)
      have HN := hid (show puN l = 0 by unfold puN; rw [hb]; rfl)
      have HP := hid hb
      clear hb hv
      go_wp2
      go_returns
      exact ⟨by rw [HN.out, HP.out]; rfl, HB.out⟩
    by_cases h1 : 1000000000 < v
    · have hb := puB_no (l := l) (fun u hu => by rw [hv] at hu; cases hu; omega)
      have HN := hid (show puN l = 0 by unfold puN; rw [hb]; rfl)
      have HP := hid hb
      clear hb hv
      go_wp2
      go_returns
      exact ⟨by rw [HN.out, HP.out]; rfl, HB.out⟩
    have h0' : 0 ≤ v := by omega
    have h1' : v ≤ 1000000000 := by omega
    have HC := hid (fun w ht => Tryd.strconv_Itoa v (by omega) (by omega) w ht)
    obtain ⟨T, hT⟩ : ∃ T, Lib.itoa v = T := ⟨_, rfl⟩
    rw [hT] at HC
    by_cases he : T = l
    · subst he
      obtain ⟨hb, hn⟩ := puB_of h0' h1' hT
      have HN := hid hn
      have HP := hid hb
      clear hb hn hT hv
      go_wp2_with fail
      refine (HC.out _ HE1.out.tab).mono ?_
      rintro e w2 ⟨rfl, k, os, rfl⟩
      have HB2 := hid (HB.out.trans ((grow_below w1 k os).mono HB.out.size))
      go_wp2
      go_returns
      exact ⟨by rw [HN.out, HP.out]; rfl, HB2.out⟩
    · have hb := puB_no (l := l) (fun u hu => by
        rw [hv] at hu
        cases hu
        rw [hT]
        exact fun h => he h.2.2)
      have HN := hid (show puN l = 0 by unfold puN; rw [hb]; rfl)
      have HP := hid hb
      have hne : (T == l) = false := by simpa using he
      clear hb hT hv he
      go_wp2_with fail
      refine (HC.out _ HE1.out.tab).mono ?_
      rintro e w2 ⟨rfl, k, os, rfl⟩
      have HB2 := hid (HB.out.trans ((grow_below w1 k os).mono HB.out.size))
      go_wp2
      go_returns
      exact ⟨by rw [HN.out, HP.out]; rfl, HB2.out⟩
  · have hb := puB_no (l := l) (fun v hv => absurd hv (hno v))
    have HN := hid (show puN l = 0 by unfold puN; rw [hb]; rfl)
    have HP := hid hb
    clear hno hb
    go_wp2
    go_returns
    exact ⟨by rw [HN.out, HP.out]; rfl, HB.out⟩
end Go.Proofs.YtceboblhpglofaaDoor
