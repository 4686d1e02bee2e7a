/- The gates of any statement: in the program and in the reference. -/
import Derived.Test.YtihbaieiempjeaaCompS
namespace Go.Proofs.Ytihbaieiempjeaa
open Go.RowKit

set_option linter.unusedVariables false in
set_option maxHeartbeats 800000 in
theorem iCompiled {G O : Option Addr} {cg co gr kr k : Nat} {c : Cs} (s : St) (w : World) (hg : w.ownsRow 0 TG 3 (.slice G c.g.length cg) c.g.length (ints (flatG c.g))) (ho : w.ownsRow 0 3 1 (.slice O 0 co) 0 (ints [])) (hr : Regs w gr kr c.r) (h : OkC c k) (hk : k ≤ 120) (hs : Plain s) :
    Calls Try.prog 88 #[.agg #[.slice G c.g.length cg, .slice O 0 co], .agg #[.int .i64 s.o, .int .i64 s.d, .int .i64 s.a, .int .i64 s.b, .int .i64 s.c, .int .i64 s.n], .slice (some ⟨gr, 0, none⟩) 8 kr, .int .i64 0] w (GivesW w (wordP c.g c.r 0 s).1 (wordP c.g c.r 0 s).2) := by
  have hl : c.g.length ≤ 5000 := by have := h.hi; omega
  obtain ⟨ea, wa⟩ := h.reg hs.a
  obtain ⟨eb, wb⟩ := h.reg hs.b
  obtain ⟨ec, wc⟩ := h.reg hs.c
  have hop := hs.op
  have hd := hs.d
  have ha := hs.a
  have hb := hs.b
  have hc := hs.c
  have hn := hs.n
  have hi := hs.inp
  have hrl := hr.lt
  have h8 := hr.cap
  have hok := h.g
  clear hs
  obtain ⟨o, d, a, b, e, n⟩ := s
  dsimp only at *
  obtain ⟨d, rfl⟩ := Int.eq_ofNat_of_zero_le hd.1
  obtain ⟨a, rfl⟩ := Int.eq_ofNat_of_zero_le ha.1
  obtain ⟨b, rfl⟩ := Int.eq_ofNat_of_zero_le hb.1
  obtain ⟨e, rfl⟩ := Int.eq_ofNat_of_zero_le hc.1
  obtain ⟨n, rfl⟩ := Int.eq_ofNat_of_zero_le hn.1
  obtain ⟨bx, ox, cx, qx, kx, dx⟩ := hr.at_ ea
  rw [Int.toNat_natCast] at qx
  obtain ⟨bY, oy, cy, qy, ky, dy⟩ := hr.at_ eb
  rw [Int.toNat_natCast] at qy
  obtain ⟨bz, oz, cz, qz, kz, dz⟩ := hr.at_ ec
  rw [Int.toNat_natCast] at qz
  have x4 := word_len wa
  have y4 := word_len wb
  have z4 := word_len wc
  obtain ⟨x0, hx0⟩ : ∃ x, (regL c.r (a : Int))[0]? = some x := ⟨_, List.getElem?_eq_getElem (by omega)⟩
  have gx0 := getD_at hx0
  have ho10 : o = 1 ∨ o = 2 ∨ o = 3 ∨ o = 4 ∨ o = 5 ∨ o = 6 ∨ o = 7 ∨ o = 8 ∨ o = 9 ∨ o = 10 := by omega
  unfold wordP
  dsimp only
  rcases ho10 with rfl | rfl | rfl | rfl | rfl | rfl | rfl | rfl | rfl | rfl
  · rw [if_pos rfl]
    exact iComp1 w hg ho hok hl (by omega) (by omega) hrl h8 qx qy dx dy wa wb kx (by omega)
  · rw [if_neg (by decide), if_pos rfl]
    exact iComp2 w hg ho hok hl (by omega) (by omega) hrl h8 qx qy dx dy wa wb kx (hi rfl).1 (by have := hi rfl; omega)
  · rw [if_neg (by decide), if_neg (by decide), if_pos rfl]
    exact iComp3 w hg ho hok hl (by omega) (by omega) hrl h8 qx qy dx dy wa wb kx
  · rw [if_neg (by decide), if_neg (by decide), if_neg (by decide), if_pos rfl]
    exact iComp4 w hg ho hok hl (by omega) (by omega) hrl h8 qx qy dx dy wa wb kx
  · rw [if_neg (by decide), if_neg (by decide), if_neg (by decide), if_neg (by decide), if_pos rfl]
    exact iComp5 w hg ho hok hl (by omega) (by omega) hrl h8 qx qy dx dy wa wb kx
  · rw [if_neg (by decide), if_neg (by decide), if_neg (by decide), if_neg (by decide), if_neg (by decide), if_pos rfl]
    exact iComp6 w hg ho hok hl (by omega) (by omega) hrl h8 qx qy dx dy wa wb kx
  · rw [if_neg (by decide), if_neg (by decide), if_neg (by decide), if_neg (by decide), if_neg (by decide), if_neg (by decide), if_pos rfl]
    exact iComp7 w hg ho hok hl (by omega) (by omega) hrl h8 qx qy dx dy wa wb kx
  · rw [if_neg (by decide), if_neg (by decide), if_neg (by decide), if_neg (by decide), if_neg (by decide), if_neg (by decide), if_neg (by decide), if_pos rfl]
    exact iComp8 w hg ho hok hl (by omega) (by omega) hrl h8 qx qy dx dy wa wb kx
  · rw [if_neg (by decide), if_neg (by decide), if_neg (by decide), if_neg (by decide), if_neg (by decide), if_neg (by decide), if_neg (by decide), if_neg (by decide), if_pos rfl]
    exact iComp9 w hg ho hok hl (by omega) (by omega) hrl h8 qx qy dx dy wa wb kx
  · rw [if_neg (by decide), if_neg (by decide), if_neg (by decide), if_neg (by decide), if_neg (by decide), if_neg (by decide), if_neg (by decide), if_neg (by decide), if_neg (by decide)]
    rw [gx0]; exact iComp10 w hg ho hok hl (by omega) (by omega) hrl h8 qx qy dx dy wa wb kx (by omega) qz dz wc hx0
set_option linter.unusedVariables false in
set_option maxHeartbeats 800000 in
theorem sWord {lo bp gr kr k : Nat} {O : Value} {c : Cs} (s : St) (w : World) (hB : Bld TS w lo bp c.g O) (hr : Regs w gr kr c.r) (h : OkC c k) (hk : k ≤ 120) (hs : Plain s) :
    Calls Try.prog 41 #[.pointer (some ⟨bp, 0, none⟩), .slice (some ⟨gr, 0, none⟩) 8 kr, .agg #[.int .i64 s.o, .int .i64 s.d, .int .i64 s.a, .int .i64 s.b, .int .i64 s.c, .int .i64 s.n], .int .i64 0] w fun e w' => ∃ g k, e = .returned (.slice (some ⟨g, 0, none⟩) 4 k) ∧ w.heap.size ≤ g ∧ RowI w' g 4 k (wordP c.g c.r 0 s).2 ∧ Bld TS w' lo bp (wordP c.g c.r 0 s).1 O ∧ Stay TS lo w w' := by
  have hl : c.g.length ≤ 5000 := by have := h.hi; omega
  obtain ⟨ea, wa⟩ := h.reg hs.a
  obtain ⟨eb, wb⟩ := h.reg hs.b
  obtain ⟨ec, wc⟩ := h.reg hs.c
  have hop := hs.op
  have hd := hs.d
  have ha := hs.a
  have hb := hs.b
  have hc := hs.c
  have hn := hs.n
  have hi := hs.inp
  have hrl := hr.lt
  have h8 := hr.cap
  have hok := h.g
  clear hs
  obtain ⟨o, d, a, b, e, n⟩ := s
  dsimp only at *
  obtain ⟨d, rfl⟩ := Int.eq_ofNat_of_zero_le hd.1
  obtain ⟨a, rfl⟩ := Int.eq_ofNat_of_zero_le ha.1
  obtain ⟨b, rfl⟩ := Int.eq_ofNat_of_zero_le hb.1
  obtain ⟨e, rfl⟩ := Int.eq_ofNat_of_zero_le hc.1
  obtain ⟨n, rfl⟩ := Int.eq_ofNat_of_zero_le hn.1
  obtain ⟨vals, hrow, hvals⟩ := hr
  obtain ⟨bx, ox, cx, vx, kx, dx⟩ := hvals _ _ ea
  have qx := hrow.cell vx
  rw [Int.toNat_natCast] at qx vx
  obtain ⟨bY, oy, cy, vy, ky, dy⟩ := hvals _ _ eb
  have qy := hrow.cell vy
  rw [Int.toNat_natCast] at qy vy
  obtain ⟨bz, oz, cz, vz, kz, dz⟩ := hvals _ _ ec
  have qz := hrow.cell vz
  rw [Int.toNat_natCast] at qz vz
  have x4 := word_len wa
  have y4 := word_len wb
  have z4 := word_len wc
  obtain ⟨x0, hx0⟩ : ∃ x, (regL c.r (a : Int))[0]? = some x := ⟨_, List.getElem?_eq_getElem (by omega)⟩
  have gx0 := getD_at hx0
  have ho10 : o = 1 ∨ o = 2 ∨ o = 3 ∨ o = 4 ∨ o = 5 ∨ o = 6 ∨ o = 7 ∨ o = 8 ∨ o = 9 ∨ o = 10 := by omega
  unfold wordP
  dsimp only
  rcases ho10 with rfl | rfl | rfl | rfl | rfl | rfl | rfl | rfl | rfl | rfl
  · rw [if_pos rfl]
    exact sComp1 w hB hl (by omega) (by omega) hrl h8 qx qy dx dy x4 y4 (by omega)
  · rw [if_neg (by decide), if_pos rfl]
    exact sComp2 w hB hl (by omega) (by omega) hrl h8 qx qy dx dy x4 y4 (hi rfl).1 (by have := hi rfl; omega)
  · rw [if_neg (by decide), if_neg (by decide), if_pos rfl]
    exact sComp3 w hB hl (by omega) (by omega) hrl h8 qx qy dx dy x4 y4
  · rw [if_neg (by decide), if_neg (by decide), if_neg (by decide), if_pos rfl]
    exact sComp4 w hB hl (by omega) (by omega) hrl h8 qx qy dx dy x4 y4
  · rw [if_neg (by decide), if_neg (by decide), if_neg (by decide), if_neg (by decide), if_pos rfl]
    exact sComp5 w hB hl (by omega) (by omega) hrl h8 qx qy dx dy x4 y4
  · rw [if_neg (by decide), if_neg (by decide), if_neg (by decide), if_neg (by decide), if_neg (by decide), if_pos rfl]
    exact sComp6 w hB hl (by omega) (by omega) hrl h8 qx qy dx dy x4 y4
  · rw [if_neg (by decide), if_neg (by decide), if_neg (by decide), if_neg (by decide), if_neg (by decide), if_neg (by decide), if_pos rfl]
    exact sComp7 w hB hl (by omega) (by omega) hrl h8 qx qy dx dy x4 y4
  · rw [if_neg (by decide), if_neg (by decide), if_neg (by decide), if_neg (by decide), if_neg (by decide), if_neg (by decide), if_neg (by decide), if_pos rfl]
    exact sComp8 w hB hl (by omega) (by omega) hrl h8 qx qy dx dy x4 y4
  · rw [if_neg (by decide), if_neg (by decide), if_neg (by decide), if_neg (by decide), if_neg (by decide), if_neg (by decide), if_neg (by decide), if_neg (by decide), if_pos rfl]
    exact sComp9 w hB hl (by omega) (by omega) hrl h8 qx qy dx dy x4 y4
  · rw [if_neg (by decide), if_neg (by decide), if_neg (by decide), if_neg (by decide), if_neg (by decide), if_neg (by decide), if_neg (by decide), if_neg (by decide), if_neg (by decide)]
    rw [gx0]; exact sComp10 w hB hl (by omega) (by omega) hrl h8 qx qy dx dy x4 y4 (by omega) hrow vz dz z4 hx0
end Go.Proofs.Ytihbaieiempjeaa
