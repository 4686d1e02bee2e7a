import Derived.Test.YtihbaieiempjeaaCompS
/- The gates of any statement: in the program and in the reference. -/
namespace Go.Proofs.Ytihbaieiempjeaa
open Go.RowKit

set_option linter.unusedVariables false in
set_option maxHeartbeats 800000 in
theorem iCompiled {G O : Option Addr} {cg co gr kr k : Nat} {c : Cs} (s : St) (w : World) (hg : w.ownsRow 0 TG 3 (.slice G c.g.length cg) c.g.length (ints (flatG c.g))) (ho : w.ownsRow 0 3 1 (.slice O 0 co) 0 (ints [])) (hr : Regs w gr kr c.r) (h : OkC c k) (hk : k ≤ 120) (hs : Plain s) :
    Calls Try.prog 88 #[.agg #[.slice G c.g.length cg, .slice O 0 co], .agg #[.int .i64 s.o, .int .i64 s.d, .int .i64 s.a, .int .i64 s.b, .int .i64 s.c, .int .i64 s.n], .slice (some ⟨gr, 0, none⟩) 8 kr, .int .i64 0] w (GivesW w (wordP c.g c.r 0 s).1 (wordP c.g c.r 0 s).2) := by
  have hl : c.g.length ≤ 5000 := by have := h.hi; omega
  obtain ⟨ea, wa⟩ := h.reg hs.a
  obtain ⟨eb, wb⟩ := h.reg hs.b
  obtain ⟨ec, wc⟩ := h.reg hs.c
  have hop := hs.op
  have hd := hs.d
  have ha := hs.a
  have hb := hs.b
  have hc := hs.c
  have hn := hs.n
  have hi := hs.inp
  have hrl := hr.lt
  have h8 := hr.cap
  have hok := h.g
  clear hs
  obtain ⟨o, d, a, b, e, n⟩ := s
  dsimp only at *
  obtain ⟨d, rfl⟩ := Int.eq_ofNat_of_zero_le hd.1
  obtain ⟨a, rfl⟩ := Int.eq_ofNat_of_zero_le ha.1
  obtain ⟨b, rfl⟩ := Int.eq_ofNat_of_zero_le hb.1
  obtain ⟨e, rfl⟩ := Int.eq_ofNat_of_zero_le hc.1
  obtain ⟨n, rfl⟩ := Int.eq_ofNat_of_zero_le hn.1
  obtain ⟨bx, ox, cx, qx, kx, dx⟩ := hr.at_ ea
  rw [Int.toNat_natCast] at qx
  obtain ⟨bY, oy, cy, qy, ky, dy⟩ := hr.at_ eb
  rw [Int.toNat_natCast] at qy
  obtain ⟨bz, oz, cz, qz, kz, dz⟩ := hr.at_ ec
  rw [Int.toNat_natCast] at qz
  have x4 := word_len wa
  have y4 := word_len wb
  have z4 := word_len wc
  obtain ⟨x0, hx0⟩ : ∃ x, (regL c.r (a : Int))[0]? = some x := ⟨_, List.getElem?_eq_getElem (by omega)⟩
  have gx0 := getD_at hx0
  have ho10 : o = 1 ∨ o = 2 ∨ o = 3 ∨ o = 4 ∨ o = 5 ∨ o = 6 ∨ o = 7 ∨ o = 8 ∨ o = 9 ∨ o = 10 := by omega
  unfold wordP
  dsimp only
  rcases ho10 with rfl | rfl | rfl | rfl | rfl | rfl | rfl | rfl | rfl | rfl
  · rw [if_pos rfl]
    exact iComp1 w hg ho hok hl (by omega) (by omega) hrl h8 qx qy dx dy wa wb kx (by omega)
  · rw [if_neg (by decide), if_pos rfl]
    exact iComp2 w hg ho hok hl (by omega) (by omega) hrl h8 qx qy dx dy wa wb kx (hi rfl).1 (by have := hi rfl; omega)
  · rw [if_neg (by decide), if_neg (by decide), if_pos rfl]
    exact iComp3 w hg ho hok hl (by omega) (by omega) hrl h8 qx qy dx dy wa wb kx
  · rw [if_neg (by decide), if_neg (by decide), if_neg (by decide), if_pos rfl]
    exact iComp4 w hg ho hok hl (by omega) (by omega) hrl h8 qx qy dx dy wa wb kx
  · rw [if_neg (by decide), if_neg (by decide), if_neg (by decide), if_neg (by decide), if_pos rfl]
    exact iComp5 w hg ho hok hl (by omega) (by omega) hrl h8 qx qy dx dy wa wb kx
  · rw [if_neg (by decide), if_neg (by decide), if_neg (by decide), if_neg (by decide), if_neg (by decide), if_pos rfl]
    exact iComp6 w hg ho hok hl (by omega) (by omega) hrl h8 qx qy dx dy wa wb kx
  · rw [if_neg (by decide), if_neg (by decide), if_neg (by decide), if_neg (by decide), if_neg (by decide), if_neg (by decide), if_pos rfl]
    exact iComp7 w hg ho hok hl (by omega) (by omega) hrl h8 qx qy dx dy wa wb kx
  · rw [if_neg (by decide), if_neg (by decide), if_neg (by decide), if_neg (by decide), if_neg (by decide), if_neg (by decide), if_neg (by decide), if_pos rfl]
    exact iComp8 w hg ho hok hl (by omega) (by omega) hrl h8 qx qy dx dy wa wb kx
  · rw [if_neg (by decide), if_neg (by decide), if_neg (by decide), if_neg (by decide), if_neg (by decide), if_neg (by decide), if_neg (by decide), if_neg (by decide), if_pos rfl]
    exact iComp9 w hg ho hok hl (by omega) (by omega) hrl h8 qx qy dx dy wa wb kx
  · rw [if_neg (by decide), if_neg (by decide), if_neg (by decide), if_neg (by decide), if_neg (by decide), if_neg (by decide), if_neg (by decide), if_neg (by decide), if_neg (by decide)]
    rw [gx0]; exact iComp10 w hg ho hok hl (by omega) (by omega) hrl h8 qx qy dx dy wa wb kx (by omega) qz dz wc hx0
set_option linter.unusedVariables false in
set_option maxHeartbeats 800000 in
theorem sWord {lo bp gr kr k : Nat} {O : Value} {c : Cs} (s : St) (w : World) (hB : Bld TS w lo bp c.g O) (hr : Regs w gr kr c.r) (h : OkC c k) (hk : k ≤ 120) (hs : Plain s) :
    Calls Try.prog 41 #[.pointer (some ⟨bp, 0, none⟩), .slice (some ⟨gr, 0, none⟩) 8 kr, .agg #[.int .i64 s.o, .int .i64 s.d, .int .i64 s.a, .int .i64 s.b, .int .i64 s.c, .int .i64 s.n], .int .i64 0] w fun e w' => ∃ g k, e = .returned (.slice (some ⟨g, 0, none⟩) 4 k) ∧ w.heap.size ≤ g ∧ RowI w' g 4 k (wordP c.g c.r 0 s).2 ∧ Bld TS w' lo bp (wordP c.g c.r 0 s).1 O ∧ Stay TS lo w w' := by
  have hl : c.g.length ≤ 5000 := by have := h.hi; omega
  obtain ⟨ea, wa⟩ := h.reg hs.a
  obtain ⟨eb, wb⟩ := h.reg hs.b
  obtain ⟨ec, wc⟩ := h.reg hs.c
  have hop := hs.op
  have hd := hs.d
  have ha := hs.a
  have hb := hs.b
  have hc := hs.c
  have hn := hs.n
  have hi := hs.inp
  have hrl := hr.lt
  have h8 := hr.cap
  have hok := h.g
  clear hs
  obtain ⟨o, d, a, b, e, n⟩ := s
  dsimp only at *
  obtain ⟨d, rfl⟩ := Int.eq_ofNat_of_zero_le hd.1
  obtain ⟨a, rfl⟩ := Int.eq_ofNat_of_zero_le ha.1
  obtain ⟨b, rfl⟩ := Int.eq_ofNat_of_zero_le hb.1
  obtain ⟨e, rfl⟩ := Int.eq_ofNat_of_zero_le hc.1
  obtain ⟨n, rfl⟩ := Int.eq_ofNat_of_zero_le hn.1
  obtain ⟨vals, hrow, hvals⟩ := hr
  obtain ⟨bx, ox, cx, vx, kx, dx⟩ := hvals _ _ ea
  have qx := hrow.cell vx
  rw [Int.toNat_natCast] at qx vx
  obtain ⟨bY, oy, cy, vy, ky, dy⟩ := hvals _ _ eb
  have qy := hrow.cell vy
  rw [Int.toNat_natCast] at qy vy
  obtain ⟨bz, oz, cz, vz, kz, dz⟩ := hvals _ _ ec
  have qz := hrow.cell vz
  rw [Int.toNat_natCast] at qz vz
  have x4 := word_len wa
  have y4 := word_len wb
  have z4 := word_len wc
  obtain ⟨x0, hx0⟩ : ∃ x, (regL c.r (a : Int))[0]? = some x := ⟨_, List.getElem?_eq_getElem (by omega)⟩
  have gx0 := getD_at hx0
  have ho10 : o = 1 ∨ o = 2 ∨ o = 3 ∨ o = 4 ∨ o = 5 ∨ o = 6 ∨ o = 7 ∨ o = 8 ∨ o = 9 ∨ o = 10 := by omega
  unfold wordP
  dsimp only
  rcases ho10 with rfl | rfl | rfl | rfl | rfl | rfl | rfl | rfl | rfl | rfl
  · rw [if_pos rfl]
    exact sComp1 w hB hl (by omega) (by omega) hrl h8 qx qy dx dy x4 y4 (by omega)
  · rw [if_neg (by decide), if_pos rfl]
    exact sComp2 w hB hl (by omega) (by omega) hrl h8 qx qy dx dy x4 y4 (hi rfl).1 (by have := hi rfl; omega)
  · rw [if_neg (by decide), if_neg (by decide), if_pos rfl]
    exact sComp3 w hB hl (by omega) (by omega) hrl h8 qx qy dx dy x4 y4
  · rw [if_neg (by decide), if_neg (by decide), if_neg (by decide), if_pos rfl]
    exact sComp4 w hB hl (by omega) (by omega) hrl h8 qx qy dx dy x4 y4
  · rw [if_neg (by decide), if_neg (by decide), if_neg (by decide), if_neg (by decide), if_pos rfl]
    exact sComp5 w hB hl (by omega) (by omega) hrl h8 qx qy dx dy x4 y4
  · rw [if_neg (by decide), if_neg (by decide), if_neg (by decide), if_neg (by decide), if_neg (by decide), if_pos rfl]
    exact sComp6 w hB hl (by omega) (by omega) hrl h8 qx qy dx dy x4 y4
  · rw [if_neg (by decide), if_neg (by decide), if_neg (by decide), if_neg (by decide), if_neg (by decide), if_neg (by decide), if_pos rfl]
    exact sComp7 w hB hl (by omega) (by omega) hrl h8 qx qy dx dy x4 y4
  · rw [if_neg (by decide), if_neg (by decide), if_neg (by decide), if_neg (by decide), if_neg (by decide), if_neg (by decide), if_neg (by decide), if_pos rfl]
    exact sComp8 w hB hl (by omega) (by omega) hrl h8 qx qy dx dy x4 y4
  · rw [if_neg (by decide), if_neg (by decide), if_neg (by decide), if_neg (by decide), if_neg (by decide), if_neg (by decide), if_neg (by decide), if_neg (by decide), if_pos rfl]
    exact sComp9 w hB hl (by omega) (by omega) hrl h8 qx qy dx dy x4 y4
  · rw [if_neg (by decide), if_neg (by decide), if_neg (by decide), if_neg (by decide), if_neg (by decide), if_neg (by decide), if_neg (by decide), if_neg (by decide), if_neg (by decide)]
    rw [gx0]; exact sComp10 w hB hl (by omega) (by omega) hrl h8 qx qy dx dy x4 y4 (by omega) hrow vz dz z4 hx0
end Go.Proofs.Ytihbaieiempjeaa
/- Registers whose words lie apart from one other row of numbers. -/
namespace Go.Proofs.Ytihbaieiempjeaa
open Go.RowKit

/-- A row of words; none of them lies in the block of v. -/
def RegsV (w : World) (g n c : Nat) (rs : List (List Int)) (v : Value) : Prop :=
  ∃ vals : List Value, Row w g 25 1 n c vals ∧ ∀ (j : Nat) (ws : List Int), rs[j]? = some ws → ∃ b off k, vals[j]? = some (.slice (some ⟨b, off, none⟩) 4 k) ∧ 4 ≤ k ∧ (∀ q, v.ownBlock = some q → b ≠ q) ∧ Wd w (some ⟨b, off, none⟩) ws
section
variable {w w' : World} {g n c : Nat} {rs : List (List Int)} {v v' : Value}
theorem RegsV.regs (h : RegsV w g 8 c rs v) : Regs w g c rs := by
  obtain ⟨vals, h1, h2⟩ := h
  refine ⟨vals, h1, fun j ws hj => ?_⟩
  obtain ⟨b, off, k, e, hk, _, hw⟩ := h2 j ws hj
  exact ⟨b, off, k, e, hk, hw⟩
theorem RegsV.at_ (h : RegsV w g n c rs v) {j : Nat} {ws : List Int} (hj : rs[j]? = some ws) : ∃ b off k, w.cell? ⟨g, j, none⟩ = some (.slice (some ⟨b, off, none⟩) 4 k) ∧ 4 ≤ k ∧ (∀ q, v.ownBlock = some q → b ≠ q) ∧ Wd w (some ⟨b, off, none⟩) ws := by
  obtain ⟨vals, h1, h2⟩ := h
  obtain ⟨b, off, k, e, hk, hq, hw⟩ := h2 j ws hj
  exact ⟨b, off, k, h1.cell e, hk, hq, hw⟩
theorem RegsV.lt (h : RegsV w g n c rs v) : g < w.heap.size := by
  obtain ⟨vals, h1, _⟩ := h
  exact h1.lt
theorem RegsV.cap (h : RegsV w g n c rs v) : n ≤ c := by
  obtain ⟨vals, h1, _⟩ := h
  exact h1.cap
theorem RegsV.froz (h : RegsV w g n c rs v) (j : Nat) : w.frozen? ⟨g, j, none⟩ = false := by
  obtain ⟨vals, h1, _⟩ := h
  exact World.ownsRow.frozenAt h1 j
theorem RegsV.move (h : RegsV w g n c rs v) (hr : ∀ vals, Row w g 25 1 n c vals → Row w' g 25 1 n c vals)
    (hw : ∀ b off ws, (∀ q, v.ownBlock = some q → b ≠ q) → Wd w (some ⟨b, off, none⟩) ws → Wd w' (some ⟨b, off, none⟩) ws ∧ ∀ q, v'.ownBlock = some q → b ≠ q) : RegsV w' g n c rs v' := by
  obtain ⟨vals, h1, h2⟩ := h
  refine ⟨vals, hr vals h1, fun j ws hj => ?_⟩
  obtain ⟨b, off, k, e, hk, hq, hx⟩ := h2 j ws hj
  obtain ⟨hx', hq'⟩ := hw b off ws hq hx
  exact ⟨b, off, k, e, hk, hq', hx'⟩
theorem RegsV.below (h : RegsV w g n c rs v) (hb : Below w.heap.size w w') : RegsV w' g n c rs v :=
  h.move (fun _ h => Row.below h hb) fun _ _ _ hq hx => ⟨hx.below hb, hq⟩
theorem RegsV.heap {X : World} (h : RegsV w g n c rs v) (e : X.heap = w.heap) : RegsV X g n c rs v :=
  h.move (fun _ h => by unfold Row World.ownsRow at h ⊢; rw [e]; exact h) fun _ _ _ hq hx => ⟨hx.heap e, hq⟩
theorem Wd.touch {L : List Nat} {b off : Nat} {xs : List Int} (h : Wd w (some ⟨b, off, none⟩) xs) (t : Touch L w w') (hb : b ∉ L) : Wd w' (some ⟨b, off, none⟩) xs := by
  have hlt := h.lt
  obtain ⟨b', off', cs, m, e, hh, hc⟩ := h
  injection e with e
  injection e with e1 e2
  subst e1 e2
  exact ⟨b, off, cs, m, rfl, (t.block b hlt hb).trans hh, hc⟩
theorem Wd.not_blk {b off p t : Nat} {xs : List Int} {cs : Array Value} (h : Wd w (some ⟨b, off, none⟩) xs) (hp : Blk w p t cs) (hne : t ≠ 3) : b ≠ p := by
  obtain ⟨b', off', cs', m, e, hh, hc⟩ := h
  injection e with e
  injection e with e1 e2
  subst e1 e2
  rintro rfl
  unfold Blk at hp
  rw [hp] at hh
  injection hh with hh
  injection hh with _ h2 _
  exact hne h2
theorem Row.not_blk {q e s m k p t : Nat} {xs : List Value} {cs : Array Value} (h : Row w q e s m k xs) (hp : Blk w p t cs) (hne : t ≠ e) : q ≠ p := by
  obtain ⟨_, cur, h1, _⟩ := h.parts
  rintro rfl
  unfold Blk at hp
  rw [hp] at h1
  injection h1 with h1
  injection h1 with _ h2 _
  exact hne h2
theorem Row.touch {L : List Nat} {q e s m k : Nat} {xs : List Value} (h : Row w q e s m k xs) (t : Touch L w w') (hq : q ∉ L) : Row w' q e s m k xs :=
  own_touch' t h fun p hp => by
    have : p = q := (own_here p hp)
    subst this
    exact hq
/-- Behind a store into a block of another kind. -/
theorem RegsV.touch {p t : Nat} {cs : Array Value} (h : RegsV w g n c rs v) (tt : Touch [p] w w') (hp : Blk w p t cs) (h1 : t ≠ 3) (h2 : t ≠ 25) : RegsV w' g n c rs v :=
  h.move (fun _ hr => hr.touch tt (by have := hr.not_blk hp h2; simp; exact this)) fun _ _ _ hq hx => ⟨hx.touch tt (by have := hx.not_blk hp h1; simp; exact this), hq⟩
/-- Behind an append to the other row. -/
theorem RegsV.grown {q e m k : Nat} {vs : List Value} (h : RegsV w g n c rs (.slice (some ⟨q, 0, none⟩) m k)) (hg : w.grownBy w' (some q)) (hr : Row w q e 1 m k vs) (he : e ≠ 25) {q' : Nat} (hq : q' = q ∨ w.heap.size ≤ q') (m' k' : Nat) : RegsV w' g n c rs (.slice (some ⟨q', 0, none⟩) m' k') := by
  refine h.move (fun _ hr2 => hr2.grown hg fun e2 => ?_) fun b off ws hb hx => ⟨hx.grown hg (hb q rfl), fun p hp => ?_⟩
  · subst e2
    obtain ⟨_, c1, k1, _⟩ := hr2.parts
    obtain ⟨_, c2, k2, _⟩ := hr.parts
    rw [k1] at k2
    injection k2 with k2
    injection k2 with _ k2 _
    exact he k2.symm
  · have hp := own_here p hp
    subst hp
    rcases hq with rfl | hq
    · exact hb _ rfl
    · have := hx.lt
      omega
/-- One register is set. -/
theorem RegsV.set_ (h : RegsV w g n c rs v) {j : Nat} (hj : j < rs.length) {b off k : Nat} {ws : List Int} (hk : 4 ≤ k) (hb : ∀ q, v.ownBlock = some q → b ≠ q) (hw : Wd w (some ⟨b, off, none⟩) ws) :
    RegsV (w.setCell ⟨g, j, none⟩ (.slice (some ⟨b, off, none⟩) 4 k)) g n c (rs.set j ws) v ∧ w.grownBy (w.setCell ⟨g, j, none⟩ (.slice (some ⟨b, off, none⟩) 4 k)) (some g) := by
  obtain ⟨vals, q1, q2⟩ := h
  have r0 := World.ownsRow.stored (show w.ownsRow 0 25 1 (.slice (some ⟨g, 0, none⟩) n c) n vals from q1) j (.slice (some ⟨b, off, none⟩) 4 k)
  refine ⟨⟨vals.set j (.slice (some ⟨b, off, none⟩) 4 k), r0.1, fun i us hi => ?_⟩, r0.2⟩
  rw [List.getElem?_set] at hi
  by_cases e : j = i
  · subst e
    rw [if_pos rfl, if_pos hj] at hi
    injection hi with hi
    subst hi
    have hv : j < vals.length := by
      obtain ⟨b', off', k', e', _⟩ := q2 j _ (List.getElem?_eq_getElem hj)
      exact (List.getElem?_eq_some_iff.1 e').1
    refine ⟨b, off, k, by rw [List.getElem?_set, if_pos rfl, if_pos hv], hk, hb, hw.set_ fun b' off' e' => ?_⟩
    injection e' with e'
    injection e' with e1 e2
    subst e1 e2
    exact hw.not_ rfl q1 (by decide)
  · rw [if_neg e] at hi
    obtain ⟨b', off', k', e', hk', hb', hw'⟩ := q2 i us hi
    refine ⟨b', off', k', by rw [List.getElem?_set, if_neg e]; exact e', hk', hb', hw'.set_ fun b'' off'' e'' => ?_⟩
    injection e'' with e''
    injection e'' with e1 e2
    subst e1 e2
    exact hw'.not_ rfl q1 (by decide)
end
/-- What a compiler leaves. -/
def GivesC (w : World) (ok : Bool) (gs : List Gt) (os : List Int) (e : Ending) (w' : World) : Prop :=
  ∃ G cg O co, e = .returned (.tuple #[.agg #[.slice G gs.length cg, .slice O os.length co], .bool ok]) ∧ w'.ownsRow w.heap.size TG 3 (.slice G gs.length cg) gs.length (ints (flatG gs)) ∧
    w'.ownsRow w.heap.size 3 1 (.slice O os.length co) os.length (ints os) ∧ Below w.heap.size w w'
theorem own_none {w : World} {base e size : Nat} : w.ownsRow base e size (.slice none 0 0) 0 [] := ⟨by simp, .inl ⟨rfl, rfl⟩⟩
theorem comp_no {L : List St} (h : unrB L = false) : compL L = ⟨[], [], []⟩ := by unfold compL; rw [h]; rfl
theorem comp_yes {L : List St} (h : unrB L = true) : compL L = compC (unrL L) := by unfold compL; rw [h]; rfl
end Go.Proofs.Ytihbaieiempjeaa
