/- Lemmas of the proof: Val, VwJ, InsS. -/
import Derived.Test.YtihbaieiempjeaaGreatB0
import Derived.Test.YtihbaieiempjeaaGreatB21
import Derived.Test.YtihbaieiempjeaaGreatB1
import Derived.Test.YtihbaieiempjeaaGreatB23
namespace Go.Proofs.YtihbaieiempjeaaGreat
open Go.RowKit
set_option maxHeartbeats 1600000 in
theorem iValueOf (z d l:Int) (w:World) (hz:labelB z=true) (hd:labelB d=true) :
  Calls Tryz.prog 59 #[.int .i64 z,.int .i64 d,.int .i64 l] w fun e w'=>e=.returned (.int .i64 (valueI z d l))∧Below w.heap.size w w':=by
 have L2:=hid (fun c t w=>iLab2 z d c t w hz hd)
 unfold valueI
 by_cases h1:l=z
 ·have g1:(l == z)=true:=by simpa using h1
  rw [if_pos h1]
  clear h1
  go_enter Tryz.func59,Tryz.ntmps59
  go_wp2_with first | (go_at_call 110; (with_reducible refine (L2.out _ _ _).mono ?_); rintro e w' ⟨rfl,rfl⟩)
  go_ret
  refine ⟨rfl,?_⟩
  exact belBy
 ·have g1:(l == z)=false:=by simpa using h1
  rw [if_neg h1]
  by_cases h2:l=xorI z d
  ·have g2:(l == bits .xor .i64 z d)=true:=beq_iff_eq.2 h2
   rw [if_pos h2]
   clear h1 h2
   go_enter Tryz.func59,Tryz.ntmps59
   go_wp2_with first | (go_at_call 110; (with_reducible refine (L2.out _ _ _).mono ?_); rintro e w' ⟨rfl,rfl⟩)
   go_ret
   refine ⟨rfl,?_⟩
   exact belBy
  ·have g2:(l == bits .xor .i64 z d)=false:=beq_eq_false_iff_ne.2 h2
   rw [if_neg h2]
   clear h1 h2
   go_enter Tryz.func59,Tryz.ntmps59
   go_wp2_with first | (go_at_call 110; (with_reducible refine (L2.out _ _ _).mono ?_); rintro e w' ⟨rfl,rfl⟩)
   go_ret
   refine ⟨rfl,?_⟩
   exact belBy
set_option maxHeartbeats 1600000 in
theorem sValueOf (z d l:Int) (w:World) (hz:labelB z=true) (hd:labelB d=true) :
  Calls Tryz.prog 74 #[.int .i64 z,.int .i64 d,.int .i64 l] w fun e w'=>e=.returned (.int .i64 (valueI z d l))∧Below w.heap.size w w':=by
 have hx:=labelB_iff.1 (xor_label hz hd)
 have hz':=labelB_iff.1 hz
 have K0:=hid (fun w=>sLabelFor z d 0 w hz hd rfl)
 have K1:=hid (fun w=>sLabelFor z d 1 w hz hd rfl)
 have e0:lblI z d 0=z:=rfl
 obtain ⟨y,hy⟩:∃ y,bits .xor .i64 z d=y:=⟨_,rfl⟩
 have e1:lblI z d 1=y:=hy
 rw [e0] at K0
 rw [e1] at K1
 rw [hy] at hx
 have HV:=hid (show valueI z d l=if l=z then 0 else if l=y then 1 else -1 by rw [←hy]; rfl)
 have z0:(0:Int)≤z:=hz'.1
 have y0:(0:Int)≤y:=hx.1
 clear hx hz' e0 e1 hy hz hd
 obtain ⟨r,hr⟩:∃ r,valueI z d l=r:=⟨_,rfl⟩
 rw [hr] at HV ⊢
 clear hr
 go_enter Tryz.func74,Tryz.ntmps74
 go_wp2_with fail
 go_loopw [7,8] (fun v _ wr=>(v=.int .i64 0∨(v=.int .i64 1∧l≠z)∨(v=.int .i64 2∧l≠z∧l≠y))∧Below w.heap.size w wr) (fun v _ _=>2 - (intOf v).toNat)
 case atStart=>exact ⟨.inl rfl,Below.refl _ _⟩
 case round =>
  obtain ⟨hv,hb⟩:=hrel
  have zr:=hb.size
  have HB:=hid hb
  clear hb
  rcases hv with rfl | ⟨rfl,hn⟩ | ⟨rfl,hn,hm⟩
  ·go_wp2_with fail
   refine Calls.mono (K0.out _) ?_
   rintro e w1 ⟨rfl,hb1⟩
   have H1:=hid (HB.out.trans (hb1.mono zr))
   clear hb1
   by_cases h1:l=z
   ·have g1:(z == l)=true:=beq_iff_eq.2 h1.symm
    have HN:=hid h1
    clear h1
    go_wp2
    go_ret
    exact ⟨ret_int (by rw [HV.out,if_pos HN.out]),H1.out⟩
   ·have g1:(z == l)=false:=beq_eq_false_iff_ne.2 (Ne.symm h1)
    have HN:=hid h1
    clear h1
    go_wp2
    go_roundw
    case rel=>exact ⟨.inr (.inl ⟨rfl,HN.out⟩),H1.out⟩
    case measure=>simp [intOf]
  ·have HN:=hid hn
   clear hn
   go_wp2_with fail
   refine Calls.mono (K1.out _) ?_
   rintro e w1 ⟨rfl,hb1⟩
   have H1:=hid (HB.out.trans (hb1.mono zr))
   clear hb1
   by_cases h1:l=y
   ·have g1:(y == l)=true:=beq_iff_eq.2 h1.symm
    have HN2:=hid h1
    clear h1
    go_wp2
    go_ret
    exact ⟨ret_int (by rw [HV.out,if_neg HN.out,if_pos HN2.out]),H1.out⟩
   ·have g1:(y == l)=false:=beq_eq_false_iff_ne.2 (Ne.symm h1)
    have HN2:=hid h1
    clear h1
    go_wp2
    go_roundw
    case rel=>exact ⟨.inr (.inr ⟨rfl,HN.out,HN2.out⟩),H1.out⟩
    case measure=>simp [intOf]
  ·have HN:=hid (And.intro hn hm)
   clear hn hm
   go_wp2
   go_ret
   exact ⟨ret_int (by rw [HV.out,if_neg HN.out.1,if_neg HN.out.2]),HB.out⟩
open Go.RowKit
theorem seenL_len (zs:List Int) (d:Int) (ws:List Int):(seenL zs d ws).length=ws.length:=by simp [seenL]
theorem seenL_get {zs:List Int} {d:Int} {ws:List Int} {j:Nat} {v:Int} (h:ws[j]? = some v):(seenL zs d ws)[j]? = some (valueI (zs.getD j 0) d v):=by
 unfold seenL
 rw [List.getElem?_mapIdx,h]
 rfl
set_option linter.unusedVariables false in
set_option maxRecDepth 100000 in
set_option maxHeartbeats 6400000 in
theorem iViewNo (A:Option Addr) (c:Nat) (L:List St) (Ai:Option Addr) (ci:Nat) (ls:List In1) (s a:Int) (w:World) (hc:Cells w w.heap.size A (ints (flatS L))) (hn:L.length≤1000000000) (hcap:L.length≤c) (hci:Cells w w.heap.size Ai (insW ls)) (hi:InsW w w.heap.size ls) (hm:ls.length + totL ls≤1000000000) (hv:viewB L (insN ls) s a=false) :
  Calls Tryz.prog 58 #[.slice A L.length c,.slice Ai ls.length ci,.agg #[.int .i64 s,.int .i64 a]] w fun e w'=>e=.returned (.tuple #[.agg #[.int .i64 0,.slice none 0 0,.slice none 0 0],.slice none 0 0,.bool false])∧Below w.heap.size w w':=by
 have HC:=hid (fun w hc=>iCompile A c L w hc hn hcap)
 have HIO:=hid (fun w' (h:Below w.heap.size w w')=>iInsOk Ai ci ls w' ((hci.below h).more h.size) ((hi.below h (Nat.le_refl _)).more h.size) (by omega) (fun q hq=>by have:=totL_mem hq; omega))
 have HTK:=hid (fun w=>iTapeOk s a w)
 obtain ⟨g0,hg0⟩:∃ x,(compL L).g=x:=⟨_,rfl⟩
 obtain ⟨o0,ho0⟩:∃ x,(compL L).o=x:=⟨_,rfl⟩
 rw [hg0,ho0] at HC
 unfold viewB at hv
 clear hg0 ho0 hci hi hm hn hcap
 cases hu:unrB L
 ·rw [hu] at HC
  clear hv hu
  clear HIO HTK
  go_enter Tryz.func58,Tryz.ntmps58
  have b_0:=(Below.refl w.heap.size w)
  have s_0:=b_0.size
  have xs_0:=hc
  clear hc
  go_upto_region 1 with fail
  refine wp_forget2 (w0:=w) (B:=w.heap.size) (b0:=w.heap.size) (t0:=27) (c0:=#[.int .i64 s,.int .i64 a]) (b1:=w.heap.size + 1) (t1:=76) (c1:=#[.int .i64 0,.slice none 0 0,.slice none 0 0]) ?_ ?_ ?_ ?_
  (focus exact blkcBy2)
  (focus exact blkcBy2)
  (focus (exact belBy))
  intro w1 t_1 rg_1 hX1
  have sX1:=hX1.size
  have t_lt:=t_1.lt
  have rg_lt:=rg_1.lt
  have b_1:=b_0.trans (hX1.mono (by omega))
  have xs_1:=cells_below xs_0 hX1 (by omega)
  clear xs_0 b_0 hX1
  have cell_t:=t_1.cell
  have froz_t:=t_1.frozen
  have lt_t:=t_1.lt
  have cell_rg:=rg_1.cell
  have froz_rg:=rg_1.frozen
  have lt_rg:=rg_1.lt
  go_wp2_with fail
  refine calls_forget0 (W:=w1) ?_ ?_
  (focus (exact belBy))
  intro X2 hX2
  have sX2:=hX2.size
  refine (HC.out _ ((cells_below xs_1 hX2 (by omega)).more (by omega))).mono ?_
  rintro e w2 ⟨G0,cg0,O0,co0,rfl,g0r_2,o0r_2,hb2⟩
  have s2:=hb2.size
  have hT2:=hX2.trans (hb2.mono sX2)
  have b_2:=b_1.trans (hT2.mono (by omega))
  have xs_2:=cells_below xs_1 hT2 (by omega)
  have t_2:=Blk.past hT2 t_1
  have rg_2:=Blk.past hT2 rg_1
  have g0r_in:=own_in g0r_2
  have o0r_in:=own_in o0r_2
  clear xs_1 t_1 rg_1 b_1 cell_t froz_t lt_t cell_rg froz_rg lt_rg hX2 hT2 hb2
  have cell_t:=t_2.cell
  have froz_t:=t_2.frozen
  have lt_t:=t_2.lt
  have cell_rg:=rg_2.cell
  have froz_rg:=rg_2.frozen
  have lt_rg:=rg_2.lt
  have HB:=hid b_2
  clear b_2 g0r_2 o0r_2
  go_wp2
  ((try simp only [Exit.inBlock,Exit.then]); apply bodyPost_ret0; focus ((try simp only [results,Tryz.results58]); (try go_simp); (try rfl)))
  refine ⟨rfl,?_⟩
  have hb:=HB.out
  have hz:=hb.size
  exact belBy
 cases hib:insB (insN ls)
 ·rw [hu] at HC
  rw [hib] at HIO
  clear hv hu hib
  clear HTK
  go_enter Tryz.func58,Tryz.ntmps58
  have b_0:=(Below.refl w.heap.size w)
  have s_0:=b_0.size
  have xs_0:=hc
  clear hc
  go_upto_region 1 with fail
  refine wp_forget2 (w0:=w) (B:=w.heap.size) (b0:=w.heap.size) (t0:=27) (c0:=#[.int .i64 s,.int .i64 a]) (b1:=w.heap.size + 1) (t1:=76) (c1:=#[.int .i64 0,.slice none 0 0,.slice none 0 0]) ?_ ?_ ?_ ?_
  (focus exact blkcBy2)
  (focus exact blkcBy2)
  (focus (exact belBy))
  intro w1 t_1 rg_1 hX1
  have sX1:=hX1.size
  have t_lt:=t_1.lt
  have rg_lt:=rg_1.lt
  have b_1:=b_0.trans (hX1.mono (by omega))
  have xs_1:=cells_below xs_0 hX1 (by omega)
  clear xs_0 b_0 hX1
  have cell_t:=t_1.cell
  have froz_t:=t_1.frozen
  have lt_t:=t_1.lt
  have cell_rg:=rg_1.cell
  have froz_rg:=rg_1.frozen
  have lt_rg:=rg_1.lt
  go_wp2_with fail
  refine calls_forget0 (W:=w1) ?_ ?_
  (focus (exact belBy))
  intro X2 hX2
  have sX2:=hX2.size
  refine (HC.out _ ((cells_below xs_1 hX2 (by omega)).more (by omega))).mono ?_
  rintro e w2 ⟨G0,cg0,O0,co0,rfl,g0r_2,o0r_2,hb2⟩
  have s2:=hb2.size
  have hT2:=hX2.trans (hb2.mono sX2)
  have b_2:=b_1.trans (hT2.mono (by omega))
  have xs_2:=cells_below xs_1 hT2 (by omega)
  have t_2:=Blk.past hT2 t_1
  have rg_2:=Blk.past hT2 rg_1
  have g0r_in:=own_in g0r_2
  have o0r_in:=own_in o0r_2
  clear xs_1 t_1 rg_1 b_1 cell_t froz_t lt_t cell_rg froz_rg lt_rg hX2 hT2 hb2
  have cell_t:=t_2.cell
  have froz_t:=t_2.frozen
  have lt_t:=t_2.lt
  have cell_rg:=rg_2.cell
  have froz_rg:=rg_2.frozen
  have lt_rg:=rg_2.lt
  go_upto_region 2 with fail
  refine wp_forget0 (w0:=w2) (B:=w2.heap.size) ?_ ?_
  (focus (exact belBy))
  intro w3 hX3
  have sX3:=hX3.size
  have b_3:=b_2.trans (hX3.mono (by omega))
  have xs_3:=cells_below xs_2 hX3 (by omega)
  have g0r_3:=own_below g0r_2 hX3
  have o0r_3:=own_below o0r_2 hX3
  have t_3:=Blk.past hX3 t_2
  have rg_3:=Blk.past hX3 rg_2
  clear xs_2 g0r_2 o0r_2 t_2 rg_2 b_2 cell_t froz_t lt_t cell_rg froz_rg lt_rg hX3
  have cell_t:=t_3.cell
  have froz_t:=t_3.frozen
  have lt_t:=t_3.lt
  have cell_rg:=rg_3.cell
  have froz_rg:=rg_3.frozen
  have lt_rg:=rg_3.lt
  go_wp2_with fail
  refine calls_forget0 (W:=w3) ?_ ?_
  (focus (exact belBy))
  intro X4 hX4
  have sX4:=hX4.size
  refine (HIO.out _ (b_3.trans (hX4.mono (by omega)))).mono ?_
  rintro e w' ⟨rfl,rfl⟩
  have b_4:=b_3.trans (hX4.mono (by omega))
  have xs_4:=cells_below xs_3 hX4 (by omega)
  have g0r_4:=own_below g0r_3 hX4
  have o0r_4:=own_below o0r_3 hX4
  have t_4:=Blk.past hX4 t_3
  have rg_4:=Blk.past hX4 rg_3
  clear xs_3 g0r_3 o0r_3 t_3 rg_3 b_3 cell_t froz_t lt_t cell_rg froz_rg lt_rg hX4
  have cell_t:=t_4.cell
  have froz_t:=t_4.frozen
  have lt_t:=t_4.lt
  have cell_rg:=rg_4.cell
  have froz_rg:=rg_4.frozen
  have lt_rg:=rg_4.lt
  have HB:=hid b_4
  clear b_4 g0r_4 o0r_4
  go_wp2
  ((try simp only [Exit.inBlock,Exit.then]); apply bodyPost_ret0; focus ((try simp only [results,Tryz.results58]); (try go_simp); (try rfl)))
  refine ⟨rfl,?_⟩
  have hb:=HB.out
  have hz:=hb.size
  exact belBy
 cases hta:tapeOkB s a
 ·rw [hu] at HC
  rw [hib] at HIO
  rw [hta] at HTK
  clear hv hu hib hta
  skip
  go_enter Tryz.func58,Tryz.ntmps58
  have b_0:=(Below.refl w.heap.size w)
  have s_0:=b_0.size
  have xs_0:=hc
  clear hc
  go_upto_region 1 with fail
  refine wp_forget2 (w0:=w) (B:=w.heap.size) (b0:=w.heap.size) (t0:=27) (c0:=#[.int .i64 s,.int .i64 a]) (b1:=w.heap.size + 1) (t1:=76) (c1:=#[.int .i64 0,.slice none 0 0,.slice none 0 0]) ?_ ?_ ?_ ?_
  (focus exact blkcBy2)
  (focus exact blkcBy2)
  (focus (exact belBy))
  intro w1 t_1 rg_1 hX1
  have sX1:=hX1.size
  have t_lt:=t_1.lt
  have rg_lt:=rg_1.lt
  have b_1:=b_0.trans (hX1.mono (by omega))
  have xs_1:=cells_below xs_0 hX1 (by omega)
  clear xs_0 b_0 hX1
  have cell_t:=t_1.cell
  have froz_t:=t_1.frozen
  have lt_t:=t_1.lt
  have cell_rg:=rg_1.cell
  have froz_rg:=rg_1.frozen
  have lt_rg:=rg_1.lt
  go_wp2_with fail
  refine calls_forget0 (W:=w1) ?_ ?_
  (focus (exact belBy))
  intro X2 hX2
  have sX2:=hX2.size
  refine (HC.out _ ((cells_below xs_1 hX2 (by omega)).more (by omega))).mono ?_
  rintro e w2 ⟨G0,cg0,O0,co0,rfl,g0r_2,o0r_2,hb2⟩
  have s2:=hb2.size
  have hT2:=hX2.trans (hb2.mono sX2)
  have b_2:=b_1.trans (hT2.mono (by omega))
  have xs_2:=cells_below xs_1 hT2 (by omega)
  have t_2:=Blk.past hT2 t_1
  have rg_2:=Blk.past hT2 rg_1
  have g0r_in:=own_in g0r_2
  have o0r_in:=own_in o0r_2
  clear xs_1 t_1 rg_1 b_1 cell_t froz_t lt_t cell_rg froz_rg lt_rg hX2 hT2 hb2
  have cell_t:=t_2.cell
  have froz_t:=t_2.frozen
  have lt_t:=t_2.lt
  have cell_rg:=rg_2.cell
  have froz_rg:=rg_2.frozen
  have lt_rg:=rg_2.lt
  go_upto_region 2 with fail
  refine wp_forget0 (w0:=w2) (B:=w2.heap.size) ?_ ?_
  (focus (exact belBy))
  intro w3 hX3
  have sX3:=hX3.size
  have b_3:=b_2.trans (hX3.mono (by omega))
  have xs_3:=cells_below xs_2 hX3 (by omega)
  have g0r_3:=own_below g0r_2 hX3
  have o0r_3:=own_below o0r_2 hX3
  have t_3:=Blk.past hX3 t_2
  have rg_3:=Blk.past hX3 rg_2
  clear xs_2 g0r_2 o0r_2 t_2 rg_2 b_2 cell_t froz_t lt_t cell_rg froz_rg lt_rg hX3
  have cell_t:=t_3.cell
  have froz_t:=t_3.frozen
  have lt_t:=t_3.lt
  have cell_rg:=rg_3.cell
  have froz_rg:=rg_3.frozen
  have lt_rg:=rg_3.lt
  go_wp2_with fail
  refine calls_forget0 (W:=w3) ?_ ?_
  (focus (exact belBy))
  intro X4 hX4
  have sX4:=hX4.size
  refine (HIO.out _ (b_3.trans (hX4.mono (by omega)))).mono ?_
  rintro e w' ⟨rfl,rfl⟩
  have b_4:=b_3.trans (hX4.mono (by omega))
  have xs_4:=cells_below xs_3 hX4 (by omega)
  have g0r_4:=own_below g0r_3 hX4
  have o0r_4:=own_below o0r_3 hX4
  have t_4:=Blk.past hX4 t_3
  have rg_4:=Blk.past hX4 rg_3
  clear xs_3 g0r_3 o0r_3 t_3 rg_3 b_3 cell_t froz_t lt_t cell_rg froz_rg lt_rg hX4
  have cell_t:=t_4.cell
  have froz_t:=t_4.frozen
  have lt_t:=t_4.lt
  have cell_rg:=rg_4.cell
  have froz_rg:=rg_4.frozen
  have lt_rg:=rg_4.lt
  go_wp2_with fail
  refine calls_forget0 (W:=X4) ?_ ?_
  (focus (exact belBy))
  intro X5 hX5
  have sX5:=hX5.size
  refine (HTK.out _).mono ?_
  rintro e w5 ⟨rfl,hb5⟩
  have s5:=hb5.size
  have hT5:=hX5.trans (hb5.mono sX5)
  have b_5:=b_4.trans (hT5.mono (by omega))
  have xs_5:=cells_below xs_4 hT5 (by omega)
  have g0r_5:=own_below g0r_4 hT5
  have o0r_5:=own_below o0r_4 hT5
  have t_5:=Blk.past hT5 t_4
  have rg_5:=Blk.past hT5 rg_4
  clear xs_4 g0r_4 o0r_4 t_4 rg_4 b_4 cell_t froz_t lt_t cell_rg froz_rg lt_rg hX5 hT5 hb5
  have cell_t:=t_5.cell
  have froz_t:=t_5.frozen
  have lt_t:=t_5.lt
  have cell_rg:=rg_5.cell
  have froz_rg:=rg_5.frozen
  have lt_rg:=rg_5.lt
  have HB:=hid b_5
  clear b_5 g0r_5 o0r_5
  go_wp2
  ((try simp only [Exit.inBlock,Exit.then]); apply bodyPost_ret0; focus ((try simp only [results,Tryz.results58]); (try go_simp); (try rfl)))
  refine ⟨rfl,?_⟩
  have hb:=HB.out
  have hz:=hb.size
  exact belBy
 ·rw [hu,hib,hta] at hv
  have ha8:decide ((800000:Int) < a)=true:=by simp at hv; simp; omega
  rw [hu] at HC
  rw [hib] at HIO
  rw [hta] at HTK
  clear hv hu hib hta
  skip
  go_enter Tryz.func58,Tryz.ntmps58
  have b_0:=(Below.refl w.heap.size w)
  have s_0:=b_0.size
  have xs_0:=hc
  clear hc
  go_upto_region 1 with fail
  refine wp_forget2 (w0:=w) (B:=w.heap.size) (b0:=w.heap.size) (t0:=27) (c0:=#[.int .i64 s,.int .i64 a]) (b1:=w.heap.size + 1) (t1:=76) (c1:=#[.int .i64 0,.slice none 0 0,.slice none 0 0]) ?_ ?_ ?_ ?_
  (focus exact blkcBy2)
  (focus exact blkcBy2)
  (focus (exact belBy))
  intro w1 t_1 rg_1 hX1
  have sX1:=hX1.size
  have t_lt:=t_1.lt
  have rg_lt:=rg_1.lt
  have b_1:=b_0.trans (hX1.mono (by omega))
  have xs_1:=cells_below xs_0 hX1 (by omega)
  clear xs_0 b_0 hX1
  have cell_t:=t_1.cell
  have froz_t:=t_1.frozen
  have lt_t:=t_1.lt
  have cell_rg:=rg_1.cell
  have froz_rg:=rg_1.frozen
  have lt_rg:=rg_1.lt
  go_wp2_with fail
  refine calls_forget0 (W:=w1) ?_ ?_
  (focus (exact belBy))
  intro X2 hX2
  have sX2:=hX2.size
  refine (HC.out _ ((cells_below xs_1 hX2 (by omega)).more (by omega))).mono ?_
  rintro e w2 ⟨G0,cg0,O0,co0,rfl,g0r_2,o0r_2,hb2⟩
  have s2:=hb2.size
  have hT2:=hX2.trans (hb2.mono sX2)
  have b_2:=b_1.trans (hT2.mono (by omega))
  have xs_2:=cells_below xs_1 hT2 (by omega)
  have t_2:=Blk.past hT2 t_1
  have rg_2:=Blk.past hT2 rg_1
  have g0r_in:=own_in g0r_2
  have o0r_in:=own_in o0r_2
  clear xs_1 t_1 rg_1 b_1 cell_t froz_t lt_t cell_rg froz_rg lt_rg hX2 hT2 hb2
  have cell_t:=t_2.cell
  have froz_t:=t_2.frozen
  have lt_t:=t_2.lt
  have cell_rg:=rg_2.cell
  have froz_rg:=rg_2.frozen
  have lt_rg:=rg_2.lt
  go_upto_region 2 with fail
  refine wp_forget0 (w0:=w2) (B:=w2.heap.size) ?_ ?_
  (focus (exact belBy))
  intro w3 hX3
  have sX3:=hX3.size
  have b_3:=b_2.trans (hX3.mono (by omega))
  have xs_3:=cells_below xs_2 hX3 (by omega)
  have g0r_3:=own_below g0r_2 hX3
  have o0r_3:=own_below o0r_2 hX3
  have t_3:=Blk.past hX3 t_2
  have rg_3:=Blk.past hX3 rg_2
  clear xs_2 g0r_2 o0r_2 t_2 rg_2 b_2 cell_t froz_t lt_t cell_rg froz_rg lt_rg hX3
  have cell_t:=t_3.cell
  have froz_t:=t_3.frozen
  have lt_t:=t_3.lt
  have cell_rg:=rg_3.cell
  have froz_rg:=rg_3.frozen
  have lt_rg:=rg_3.lt
  go_wp2_with fail
  refine calls_forget0 (W:=w3) ?_ ?_
  (focus (exact belBy))
  intro X4 hX4
  have sX4:=hX4.size
  refine (HIO.out _ (b_3.trans (hX4.mono (by omega)))).mono ?_
  rintro e w' ⟨rfl,rfl⟩
  have b_4:=b_3.trans (hX4.mono (by omega))
  have xs_4:=cells_below xs_3 hX4 (by omega)
  have g0r_4:=own_below g0r_3 hX4
  have o0r_4:=own_below o0r_3 hX4
  have t_4:=Blk.past hX4 t_3
  have rg_4:=Blk.past hX4 rg_3
  clear xs_3 g0r_3 o0r_3 t_3 rg_3 b_3 cell_t froz_t lt_t cell_rg froz_rg lt_rg hX4
  have cell_t:=t_4.cell
  have froz_t:=t_4.frozen
  have lt_t:=t_4.lt
  have cell_rg:=rg_4.cell
  have froz_rg:=rg_4.frozen
  have lt_rg:=rg_4.lt
  go_wp2_with fail
  refine calls_forget0 (W:=X4) ?_ ?_
  (focus (exact belBy))
  intro X5 hX5
  have sX5:=hX5.size
  refine (HTK.out _).mono ?_
  rintro e w5 ⟨rfl,hb5⟩
  have s5:=hb5.size
  have hT5:=hX5.trans (hb5.mono sX5)
  have b_5:=b_4.trans (hT5.mono (by omega))
  have xs_5:=cells_below xs_4 hT5 (by omega)
  have g0r_5:=own_below g0r_4 hT5
  have o0r_5:=own_below o0r_4 hT5
  have t_5:=Blk.past hT5 t_4
  have rg_5:=Blk.past hT5 rg_4
  clear xs_4 g0r_4 o0r_4 t_4 rg_4 b_4 cell_t froz_t lt_t cell_rg froz_rg lt_rg hX5 hT5 hb5
  have cell_t:=t_5.cell
  have froz_t:=t_5.frozen
  have lt_t:=t_5.lt
  have cell_rg:=rg_5.cell
  have froz_rg:=rg_5.frozen
  have lt_rg:=rg_5.lt
  have HB:=hid b_5
  clear b_5 g0r_5 o0r_5
  go_wp2
  ((try simp only [Exit.inBlock,Exit.then]); apply bodyPost_ret0; focus ((try simp only [results,Tryz.results58]); (try go_simp); (try rfl)))
  refine ⟨rfl,?_⟩
  have hb:=HB.out
  have hz:=hb.size
  exact belBy
set_option linter.unusedVariables false in
set_option maxRecDepth 100000 in
set_option maxHeartbeats 6400000 in
theorem iWireView (A:Option Addr) (c:Nat) (L:List St) (Ai:Option Addr) (ci:Nat) (ls:List In1) (s a:Int) (w:World) (hc:Cells w w.heap.size A (ints (flatS L))) (hn:L.length≤1000000000) (hcap:L.length≤c) (hci:Cells w w.heap.size Ai (insW ls)) (hi:InsW w w.heap.size ls) (hm:ls.length + totL ls≤1000000000) :
  Calls Tryz.prog 15 #[.slice A L.length c,.slice Ai ls.length ci,.agg #[.int .i64 s,.int .i64 a]] w (GivesPair w (viewL L (insN ls) s a) (viewB L (insN ls) s a)):=by
 cases hv:viewB L (insN ls) s a
 ·have HV:=hid (fun w' (h:Below w.heap.size w w')=>iViewNo A c L Ai ci ls s a w' ((hc.below h).more h.size) hn hcap ((hci.below h).more h.size) ((hi.below h (Nat.le_refl _)).more h.size) hm hv)
  unfold viewL
  rw [hv,if_neg Bool.false_ne_true]
  clear hc hci hi hm hn hcap hv
  go_enter Tryz.func15,Tryz.ntmps15
  have b_0:=(Below.refl w.heap.size w)
  have s_0:=b_0.size
  go_upto_region 1 with fail
  refine wp_forget1 (w0:=w) (B:=w.heap.size) (b0:=w.heap.size) (t0:=27) (c0:=#[.int .i64 s,.int .i64 a]) ?_ ?_ ?_
  (focus exact blkcBy2)
  (focus (exact belBy))
  intro w1 t_1 hX1
  have sX1:=hX1.size
  have t_lt:=t_1.lt
  have b_1:=b_0.trans (hX1.mono (by omega))
  clear b_0 hX1
  have cell_t:=t_1.cell
  have froz_t:=t_1.frozen
  have lt_t:=t_1.lt
  go_wp2_with fail
  refine calls_forget0 (W:=w1) ?_ ?_
  (focus (exact belBy))
  intro X2 hX2
  have sX2:=hX2.size
  refine (HV.out _ (b_1.trans (hX2.mono (by omega)))).mono ?_
  rintro e w2 ⟨rfl,hb2⟩
  have s2:=hb2.size
  have hT2:=hX2.trans (hb2.mono sX2)
  have b_2:=b_1.trans (hT2.mono (by omega))
  have t_2:=Blk.past hT2 t_1
  clear t_1 b_1 cell_t froz_t lt_t hX2 hT2 hb2
  have cell_t:=t_2.cell
  have froz_t:=t_2.frozen
  have lt_t:=t_2.lt
  have HB:=hid b_2
  clear b_2
  go_wp2
  ((try simp only [Exit.inBlock,Exit.then]); apply bodyPost_ret0; focus ((try simp only [results,Tryz.results15]); (try go_simp); (try rfl)))
  refine ⟨none,0,rfl,own_none,?_⟩
  have hb:=HB.out
  have hz:=hb.size
  exact belBy
 ·obtain ⟨hu,hib,h1,h2⟩:=viewB_iff.1 hv
  have HV:=hid (fun w' (h:Below w.heap.size w w')=>iViewYes A c L Ai ci ls s a w' ((hc.below h).more h.size) hn hcap ((hci.below h).more h.size) ((hi.below h (Nat.le_refl _)).more h.size) hm hu hib h1 h2)
  unfold viewL
  rw [hv,if_pos rfl]
  obtain ⟨d,hd⟩:∃ x,deltaI s a=x:=⟨_,rfl⟩
  obtain ⟨zs,hzs⟩:∃ x,garZs s a (cirG L)=x:=⟨_,rfl⟩
  obtain ⟨ts,hts⟩:∃ x,garTs s a (cirG L)=x:=⟨_,rfl⟩
  obtain ⟨ws,hws⟩:∃ x,wireL s a (cirG L) (labsTo s a (inBits (insN ls)) 80)=x:=⟨_,rfl⟩
  rw [hd,hzs,hts,hws] at HV
  rw [hws]
  clear hc hci hi hm hn hcap hv hu hib h1 h2 hd hzs hts hws
  go_enter Tryz.func15,Tryz.ntmps15
  have b_0:=(Below.refl w.heap.size w)
  have s_0:=b_0.size
  go_upto_region 1 with fail
  refine wp_forget1 (w0:=w) (B:=w.heap.size) (b0:=w.heap.size) (t0:=27) (c0:=#[.int .i64 s,.int .i64 a]) ?_ ?_ ?_
  (focus exact blkcBy2)
  (focus (exact belBy))
  intro w1 t_1 hX1
  have sX1:=hX1.size
  have t_lt:=t_1.lt
  have b_1:=b_0.trans (hX1.mono (by omega))
  clear b_0 hX1
  have cell_t:=t_1.cell
  have froz_t:=t_1.frozen
  have lt_t:=t_1.lt
  go_wp2_with fail
  refine calls_forget0 (W:=w1) ?_ ?_
  (focus (exact belBy))
  intro X2 hX2
  have sX2:=hX2.size
  refine (HV.out _ (b_1.trans (hX2.mono (by omega)))).mono ?_
  rintro e w2 ⟨Z,cz,T,ct,V,cv,rfl,zz_2,tt_2,vv_2,hb2⟩
  have s2:=hb2.size
  have hT2:=hX2.trans (hb2.mono sX2)
  have b_2:=b_1.trans (hT2.mono (by omega))
  have t_2:=Blk.past hT2 t_1
  have zz_in:=own_in zz_2
  have tt_in:=own_in tt_2
  have vv_in:=own_in vv_2
  clear t_1 b_1 cell_t froz_t lt_t hX2 hT2 hb2
  have cell_t:=t_2.cell
  have froz_t:=t_2.frozen
  have lt_t:=t_2.lt
  go_upto_region 2 with fail
  refine wp_forget0 (w0:=w2) (B:=w2.heap.size) ?_ ?_
  (focus (exact belBy))
  intro w3 hX3
  have sX3:=hX3.size
  have b_3:=b_2.trans (hX3.mono (by omega))
  have zz_3:=own_below zz_2 hX3
  have tt_3:=own_below tt_2 hX3
  have vv_3:=own_below vv_2 hX3
  have t_3:=Blk.past hX3 t_2
  clear zz_2 tt_2 vv_2 t_2 b_2 cell_t froz_t lt_t hX3
  have cell_t:=t_3.cell
  have froz_t:=t_3.frozen
  have lt_t:=t_3.lt
  have HB:=hid (And.intro (own_weak vv_3 (show w.heap.size≤_ by omega)) b_3)
  clear b_3 zz_3 tt_3 vv_3
  go_wp2
  ((try simp only [Exit.inBlock,Exit.then]); apply bodyPost_ret0; focus ((try simp only [results,Tryz.results15]); (try go_simp); (try rfl)))
  exact ⟨V,cv,rfl,HB.out.1,HB.out.2⟩
set_option linter.unusedVariables false in
set_option maxRecDepth 100000 in
set_option maxHeartbeats 6400000 in
theorem iValuesSeen (A:Option Addr) (c:Nat) (L:List St) (Ai:Option Addr) (ci:Nat) (ls:List In1) (s a:Int) (w:World) (hc:Cells w w.heap.size A (ints (flatS L))) (hn:L.length≤1000000000) (hcap:L.length≤c) (hci:Cells w w.heap.size Ai (insW ls)) (hi:InsW w w.heap.size ls) (hm:ls.length + totL ls≤1000000000) :
  Calls Tryz.prog 16 #[.slice A L.length c,.slice Ai ls.length ci,.agg #[.int .i64 s,.int .i64 a]] w (GivesInts w (seenV L (insN ls) s a)):=by
 cases hv:viewB L (insN ls) s a
 ·have HV:=hid (fun w' (h:Below w.heap.size w w')=>iViewNo A c L Ai ci ls s a w' ((hc.below h).more h.size) hn hcap ((hci.below h).more h.size) ((hi.below h (Nat.le_refl _)).more h.size) hm hv)
  unfold seenV
  rw [hv,if_neg Bool.false_ne_true]
  clear hc hci hi hm hn hcap hv
  go_enter Tryz.func16,Tryz.ntmps16
  have b_0:=(Below.refl w.heap.size w)
  have s_0:=b_0.size
  go_upto_region 1 with fail
  refine wp_forget1 (w0:=w) (B:=w.heap.size) (b0:=w.heap.size) (t0:=27) (c0:=#[.int .i64 s,.int .i64 a]) ?_ ?_ ?_
  (focus exact blkcBy2)
  (focus (exact belBy))
  intro w1 t_1 hX1
  have sX1:=hX1.size
  have t_lt:=t_1.lt
  have b_1:=b_0.trans (hX1.mono (by omega))
  clear b_0 hX1
  have cell_t:=t_1.cell
  have froz_t:=t_1.frozen
  have lt_t:=t_1.lt
  go_wp2_with fail
  refine calls_forget0 (W:=w1) ?_ ?_
  (focus (exact belBy))
  intro X2 hX2
  have sX2:=hX2.size
  refine (HV.out _ (b_1.trans (hX2.mono (by omega)))).mono ?_
  rintro e w2 ⟨rfl,hb2⟩
  have s2:=hb2.size
  have hT2:=hX2.trans (hb2.mono sX2)
  have b_2:=b_1.trans (hT2.mono (by omega))
  have t_2:=Blk.past hT2 t_1
  clear t_1 b_1 cell_t froz_t lt_t hX2 hT2 hb2
  have cell_t:=t_2.cell
  have froz_t:=t_2.frozen
  have lt_t:=t_2.lt
  have HB:=hid b_2
  clear b_2
  go_wp2
  go_ret
  refine ⟨none,0,rfl,own_none,?_⟩
  have hb:=HB.out
  have hz:=hb.size
  exact belBy
 ·obtain ⟨hu,hib,h1,h2⟩:=viewB_iff.1 hv
  have HV:=hid (fun w' (h:Below w.heap.size w w')=>iViewYes A c L Ai ci ls s a w' ((hc.below h).more h.size) hn hcap ((hci.below h).more h.size) ((hi.below h (Nat.le_refl _)).more h.size) hm hu hib h1 h2)
  have hdl:=delta_label s a
  have hzl:=(gar_ok s a (cir_valid hu) (by obtain ⟨m,hom,hm9⟩:=cirO_len hu; omega)).z
  have hzn:(garZs s a (cirG L)).length=(cirG L).length:=gar_zeros _ _ _ _
  have hwn:=wireL_length s a (cirG L) (labsTo s a (inBits (insN ls)) 80)
  have hg6:=(circ_parts (cir_valid hu)).1
  unfold seenV
  rw [hv,if_pos rfl]
  obtain ⟨d,hd⟩:∃ x,deltaI s a=x:=⟨_,rfl⟩
  obtain ⟨zs,hzs⟩:∃ x,garZs s a (cirG L)=x:=⟨_,rfl⟩
  obtain ⟨ts,hts⟩:∃ x,garTs s a (cirG L)=x:=⟨_,rfl⟩
  obtain ⟨ws,hws⟩:∃ x,wireL s a (cirG L) (labsTo s a (inBits (insN ls)) 80)=x:=⟨_,rfl⟩
  rw [hd,hzs,hts,hws] at HV
  rw [hd] at hdl
  rw [hzs] at hzl hzn
  rw [hws] at hwn
  rw [hzs,hd,hws]
  have hzw:ws.length≤zs.length:=by omega
  have hw6:ws.length≤6000:=by omega
  have HSL:=hid (seenL_len zs d ws)
  clear hc hci hi hm hn hcap hv hu hib h1 h2 hd hzs hts hws hzn hwn hg6
  go_enter Tryz.func16,Tryz.ntmps16
  have b_0:=(Below.refl w.heap.size w)
  have s_0:=b_0.size
  go_upto_region 1 with fail
  refine wp_forget1 (w0:=w) (B:=w.heap.size) (b0:=w.heap.size) (t0:=27) (c0:=#[.int .i64 s,.int .i64 a]) ?_ ?_ ?_
  (focus exact blkcBy2)
  (focus (exact belBy))
  intro w1 t_1 hX1
  have sX1:=hX1.size
  have t_lt:=t_1.lt
  have b_1:=b_0.trans (hX1.mono (by omega))
  clear b_0 hX1
  have cell_t:=t_1.cell
  have froz_t:=t_1.frozen
  have lt_t:=t_1.lt
  go_wp2_with fail
  refine calls_forget0 (W:=w1) ?_ ?_
  (focus (exact belBy))
  intro X2 hX2
  have sX2:=hX2.size
  refine (HV.out _ (b_1.trans (hX2.mono (by omega)))).mono ?_
  rintro e w2 ⟨Z,cz,T,ct,V,cv,rfl,zz_2,tt_2,vv_2,hb2⟩
  have s2:=hb2.size
  have hT2:=hX2.trans (hb2.mono sX2)
  have b_2:=b_1.trans (hT2.mono (by omega))
  have t_2:=Blk.past hT2 t_1
  have zz_in:=own_in zz_2
  have tt_in:=own_in tt_2
  have vv_in:=own_in vv_2
  clear t_1 b_1 cell_t froz_t lt_t hX2 hT2 hb2
  have cell_t:=t_2.cell
  have froz_t:=t_2.frozen
  have lt_t:=t_2.lt
  go_upto_region 2 with fail
  refine wp_forget1 (w0:=w2) (B:=w2.heap.size) (b0:=w2.heap.size) (t0:=76) (c0:=#[.int .i64 d,.slice Z zs.length cz,.slice T ts.length ct]) ?_ ?_ ?_
  (focus exact blkcBy2)
  (focus (exact belBy))
  intro w3 ga_3 hX3
  have sX3:=hX3.size
  have ga_lt:=ga_3.lt
  have b_3:=b_2.trans (hX3.mono (by omega))
  have zz_3:=own_below zz_2 hX3
  have tt_3:=own_below tt_2 hX3
  have vv_3:=own_below vv_2 hX3
  have t_3:=Blk.past hX3 t_2
  clear zz_2 tt_2 vv_2 t_2 b_2 cell_t froz_t lt_t hX3
  have cell_t:=t_3.cell
  have froz_t:=t_3.frozen
  have lt_t:=t_3.lt
  have cell_ga:=ga_3.cell
  have froz_ga:=ga_3.frozen
  have lt_ga:=ga_3.lt
  obtain ⟨bg,hbg⟩:∃ n,w2.heap.size=n:=⟨_,rfl⟩
  rw [hbg] at ga_3
  rw [hbg]
  have HX:=hid (And.intro ga_3 (And.intro (Cells.of_own zz_3) (And.intro (Cells.of_own vv_3) b_3)))
  have z3:=b_3.size
  have lt_ga2:=ga_3.lt
  clear zz_3 tt_3 vv_3 b_3 ga_3 cell_ga froz_ga lt_ga cell_t froz_t lt_t hbg
  go_wp2_with fail
  go_loopw [10,11,12,26] (fun o _ _ i wr=>∃ (j k':Nat) (A':Option Addr),j≤ws.length∧i=.int .i64 (j:Int)∧o=.slice A' j k'∧wr.ownsRow w3.heap.size 3 1 (.slice A' j k') j (ints ((seenL zs d ws).take j))∧Below w3.heap.size w3 wr) (fun _ _ _ i _=>ws.length - (intOf i).toNat)
  case atStart=>exact ⟨0,0,some ⟨w3.heap.size,0,none⟩,Nat.zero_le _,rfl,rfl,own_lit (size:=1) #[] 0 rfl (Nat.le_refl _) (Nat.zero_le _) rfl,(Below.refl _ _).alloc (Nat.le_refl _) _⟩
  case round =>
   obtain ⟨j,k',A',hj,rfl,rfl,hown,hbw⟩:=hrel
   have zw:=hbw.size
   by_cases hlt:j < ws.length
   ·obtain ⟨v,hv⟩:∃ v,ws[j]? = some v:=⟨_,List.getElem?_eq_getElem hlt⟩
    have hz:zs[j]? = some (zs.getD j 0):=by rw [List.getD_eq_getElem?_getD,List.getElem?_eq_getElem (by omega)]; rfl
    obtain ⟨z,hzd⟩:∃ z,zs.getD j 0=z:=⟨_,rfl⟩
    rw [hzd] at hz
    have hlz:=hzl _ (List.mem_of_getElem? hz)
    have hst:=take_any (seenL_get (zs:=zs) (d:=d) hv)
    rw [hzd] at hst
    obtain ⟨bz,oz,e1,hBz,hcz⟩:=Cells.at_ (HX.out.2.1.below hbw) (ints_get hz)
    obtain ⟨bv,ov,e2,hBv,hcv⟩:=Cells.at_ (HX.out.2.2.1.below hbw) (ints_get hv)
    subst e1 e2
    have f0:=hcz _ _ (ints_get hz)
    have f1:=hcv _ _ (ints_get hv)
    have hlt':(j:Int) < (ws.length:Int):=by omega
    have hlz':(j:Int) < (zs.length:Int):=by omega
    have j00:(0:Int)≤(j:Int):=by omega
    have hb1:j + 1≤1000000:=by omega
    obtain ⟨xs',hxs⟩:∃ c,(seenL zs d ws).take j=c:=⟨_,rfl⟩
    rw [hxs] at hst hown
    have HST:=hid hst
    have HI:=hid (And.intro hown (And.intro hbw (HX.out.1.past hbw)))
    have HFZ:=hid (And.intro f0 f1)
    clear hst hv hz hzd hcz hcv hxs hown hbw f0
    go_upto_region 8 with fail
    clear f1
    have qg:=fun (X:Later wr) (o:Nat)=>(HI.out.2.2.past X.below).cell o
    have qz:=fun (X:Later wr)=>(X.below.cell (p:=⟨bz,oz + j,none⟩) (by dsimp only; omega)).trans HFZ.out.1
    have qv:=fun (X:Later wr)=>(X.below.cell (p:=⟨bv,ov + j,none⟩) (by dsimp only; omega)).trans HFZ.out.2
    refine wp_grow_tails (W:=wr) (spec:=specAt [(9,.con (.int .i64 (valueI z d v))),(10,.any (RowOf wr.heap.size 3 1 1 [.int .i64 (valueI z d v)]))]) 11 (by kernel_rfl) (by kernel_rfl) (Onward.mk' ((Below.refl _ _).drew)) (specAt_stab ?_) ?_
    ·intro p hp F hF
     simp only [List.mem_cons,List.not_mem_nil,or_false] at hp
     rcases hp with rfl | rfl
     all_goals first | (cases hF; done) | (injection hF with hF; subst hF; exact RowOf.stable)
    refine gList_quietK 9 ⟨rfl,rfl,rfl,rfl,rfl,rfl,rfl,rfl,rfl,rfl,rfl,rfl,rfl,rfl,rfl,rfl,rfl,rfl,trivial⟩ (by decide) ?_
    delta Onward
    dsimp only [List.take,List.drop]
    repeat (go_big_quiet_step (fail))
    refine wpQuiet_nil ?_
    refine gList_con (.int .i64 (valueI z d v)) rfl rfl (fun w' hC _=>?_) ?_
    ·obtain ⟨⟨w',hb⟩,rfl⟩:=hC
     exact grow_con (by simp [go_sem]) (iValueOf z d v _ hlz hdl)
    simp only [Act.put,List.setIfInBounds_toArray,List.set_cons_succ,List.set_cons_zero]
    refine gList_any (RowOf wr.heap.size 3 1 1 [.int .i64 (valueI z d v)]) rfl rfl (fun w' hC hd=>?_) (fun vr=>?_)
    ·obtain ⟨⟨w',hb⟩,rfl⟩:=hC
     exact grow_lit1i rfl rfl (fun w=>litInt _ w) hb.size
    unfold gList
    intro w' hW hfs
    have hlast:RowOf wr.heap.size 3 1 1 [.int .i64 (valueI z d v)] vr w':=hfs 10
    obtain ⟨⟨w32,hb⟩,rfl⟩:=hW
    obtain ⟨A7,c7,rfl,h7⟩:=hlast
    obtain ⟨g7,rfl,_,_,_⟩:=own_at h7 (by omega)
    have s32:=hb.size
    have H7:=hid (row_cells (show Row _ g7 _ 1 1 c7 _ from own_weak h7 (Nat.zero_le _)))
    have hko:=own_below HI.out.1 hb
    have HB5:=hid (HI.out.2.1.trans (hb.mono zw))
    have hw5:=HB5.out.size
    clear qg qz qv hfs hb h7 HFZ
    dsimp only [List.drop]
    simp only [Act.put,List.setIfInBounds_toArray,List.set_cons_succ,List.set_cons_zero]
    go_wp2_with (at_builtin; refine app_ints rfl _ _ rfl (base:=w3.heap.size) (L:=xs') (v:=Value.slice A' j k') rfl hko (by omega) [valueI z d v] rfl rfl H7.out hb1 ?_)
    intro A1 k1 w8 ho8 hg8 hl8
    have hlo:=own_in hko
    have HF:=hid (And.intro ho8 (gr_below hg8 HB5.out (by omega) (fun p hp=>(hlo p hp).1)))
    clear ho8 hg8 hl8 hko hlo
    go_wp2
    go_roundw
    case rel=>exact ⟨j + 1,k1,A1,by omega,by go_num,rfl,by rw [HST.out]; exact HF.out.1,HF.out.2⟩
    case measure=>simp [intOf]; omega
   ·obtain rfl:j=ws.length:=by omega
    rw [←HSL.out,List.take_length] at hown
    have HF:=hid (And.intro hown (HX.out.2.2.2.trans (hbw.mono z3)))
    clear hown hbw
    go_wp2
    go_ret
    rw [HSL.out] at HF
    have e:=HSL.out
    exact ⟨A',k',by rw [e]; rfl,by rw [e]; exact own_weak HF.out.1 (by omega),HF.out.2⟩
open Go.RowKit
theorem sNib (A:Option Addr) (c:Nat) (xs:List Int) (w:World) (hc:Cells w w.heap.size A (ints xs)) (hn:xs.length≤1000000000) :
  Calls Tryz.prog 84 #[.slice A xs.length c] w fun e w'=>e=.returned (.bool (nbB xs))∧w=w':=by
 go_enter Tryz.func84,Tryz.ntmps84
 go_wp2
 go_loop [3] (fun i=>∃ j:Nat,j≤xs.length∧i=.int .i64 j∧nbB (xs.take j)=true) (fun i=>xs.length - (intOf i).toNat)
 case atStart=>exact ⟨0,Nat.zero_le _,rfl,rfl⟩
 case round =>
  obtain ⟨j,hj,rfl,hw⟩:=hrel
  by_cases hlt:j < xs.length
  ·obtain ⟨x,hx⟩:∃ x,xs[j]? = some x:=⟨_,List.getElem?_eq_getElem hlt⟩
   obtain ⟨b,off,rfl,hB,hcl⟩:=hc (by rw [ints_length]; omega)
   have hcell:w.cell? ⟨b,off + j,none⟩=some (.int .i64 x):=hcl j _ (ints_get hx)
   have HW:=hid hw
   have HX:=hid hx
   clear hcl hc hw hx
   cases hb:inB x 0 15
   ·go_wp2_with (go_at_call 123; refine (sWithin _ _ _ _).mono ?_; rintro e w' ⟨rfl,rfl⟩)
    go_ret
    exact ⟨ret_bool (by rw [nbB_no HX.out hb]),rfl⟩
   ·go_wp2_with (go_at_call 123; refine (sWithin _ _ _ _).mono ?_; rintro e w' ⟨rfl,rfl⟩)
    go_round
    case rel=>exact ⟨j + 1,by omega,by go_num,nbB_snoc HX.out HW.out hb⟩
    case measure=>simp [intOf]; omega
  ·obtain rfl:j=xs.length:=by omega
   rw [List.take_length] at hw
   have HW:=hid hw
   clear hw
   go_wp2
   go_ret
   exact ⟨ret_bool HW.out.symm,rfl⟩
theorem sInsOk (A:Option Addr) (c:Nat) (ls:List In1) (w:World) (hc:Cells w w.heap.size A (insW ls)) (hi:InsW w w.heap.size ls) (hn:ls.length≤1000000000) (hm:∀ q∈ls,q.2.2.length≤1000000000) :
  Calls Tryz.prog 42 #[.slice A ls.length c] w fun e w'=>e=.returned (.bool (insB (insN ls)))∧w=w':=by
 have HI:=hid hi
 have HM:=hid hm
 clear hi hm
 go_enter Tryz.func42,Tryz.ntmps42
 go_wp2
 go_loop [3] (fun i=>∃ j:Nat,j≤ls.length∧i=.int .i64 j∧lnsB ((insN ls).take j)=true) (fun i=>ls.length - (intOf i).toNat)
 case atStart=>exact ⟨0,Nat.zero_le _,rfl,rfl⟩
 case round =>
  obtain ⟨j,hj,rfl,hw⟩:=hrel
  by_cases hlt:j < ls.length
  ·obtain ⟨⟨A1,c1,xs⟩,hx⟩:∃ x,ls[j]? = some x:=⟨_,List.getElem?_eq_getElem hlt⟩
   obtain ⟨b,off,rfl,hB,hcl⟩:=hc (by rw [insW_length]; omega)
   have hcell:w.cell? ⟨b,off + j,none⟩=some (.slice A1 xs.length c1):=hcl j _ (insW_get hx)
   have HN:=hid (sNib A1 c1 xs w (HI.out _ _ hx) (HM.out _ (List.mem_of_getElem? hx)))
   have HX:=hid (insN_get hx)
   have HW:=hid hw
   have hlt':(j:Int) < (ls.length:Int):=by omega
   clear hcl hc hw hx
   obtain ⟨m,hm⟩:∃ m,xs.length=m:=⟨_,rfl⟩
   by_cases h4:m=4
   ·subst h4
    rw [hm] at hcell HN
    have HL:=hid hm
    clear hm
    cases hb:nbB xs
    ·rw [hb] at HN
     go_wp2_with (go_at_call 84; (with_reducible refine (HN.out).mono ?_); rintro e w' ⟨rfl,rfl⟩)
     go_ret
     exact ⟨ret_bool (by rw [insB_eq,lnsB_no HX.out (by unfold lnB; rw [hb,Bool.and_false]),Bool.false_and]),rfl⟩
    ·rw [hb] at HN
     go_wp2_with (go_at_call 84; (with_reducible refine (HN.out).mono ?_); rintro e w' ⟨rfl,rfl⟩)
     go_round
     case rel=>exact ⟨j + 1,by omega,by go_num,lnsB_snoc HX.out HW.out (by unfold lnB; rw [hb,Bool.and_true]; exact decide_eq_true HL.out)⟩
     case measure=>simp [intOf]; omega
   ·have HL:=hid hm
    rw [hm] at hcell
    have h4':((m:Int) == 4)=false:=by simp; omega
    have h4'':((m:Int) != 4)=true:=by simp; omega
    clear hm
    go_wp2_with fail
    go_ret
    exact ⟨ret_bool (by rw [insB_eq,lnsB_no HX.out (by unfold lnB; rw [decide_eq_false (by rw [HL.out]; exact h4),Bool.false_and]),Bool.false_and]),rfl⟩
  ·obtain rfl:j=ls.length:=by omega
   rw [show ls.length=(insN ls).length from (insN_length ls).symm,List.take_length] at hw
   have HW:=hid hw
   clear hw
   go_wp2
   go_ret
   exact ⟨ret_bool (by rw [insB_eq,HW.out,insN_length,Bool.true_and,Bool.eq_iff_iff,beq_iff_eq,decide_eq_true_eq]; omega),rfl⟩
set_option maxRecDepth 100000 in
set_option maxHeartbeats 3200000 in
theorem sInBits (A:Option Addr) (c:Nat) (ls:List In1) (w:World) (hc:Cells w w.heap.size A (insW ls)) (hi:InsW w w.heap.size ls) (hb:insB (insN ls)=true) :
  Calls Tryz.prog 20 #[.slice A ls.length c] w fun e w'=>∃ A' c',e=.returned (.slice A' 80 c')∧w'.ownsRow w.heap.size 3 1 (.slice A' 80 c') 80 (ints (inBits (insN ls)))∧Below w.heap.size w w':=by
 have hb2:=hb
 rw [insB_eq,Bool.and_eq_true,decide_eq_true_eq,insN_length] at hb2
 obtain ⟨hlb,h5⟩:=hb2
 have h4:∀ q∈ls,q.2.2.length=4∧nbB q.2.2=true:=fun q hq=>by
  have h:=List.all_eq_true.1 hlb q.2.2 (List.mem_map.2 ⟨q,hq,rfl⟩)
  unfold lnB at h
  rw [Bool.and_eq_true,decide_eq_true_eq] at h
  exact h
 have HM:=hid (fun q (hq:q∈ls)=>(show q.2.2.length≤1000000000 by have:=(h4 q hq).1; omega))
 have HI:=hid hi
 have HC:=hid hc
 have HB:=hid hb
 have H4:=hid h4
 have HT:=hid (fun k (hk:k≤5)=>inBits_take hlb k (by rw [insN_length]; omega))
 have HK:=hid (fun w' (h:Below w.heap.size w w')=>sInsOk A c ls w' ((hc.below h).more h.size) ((hi.below h (Nat.le_refl _)).more h.size) (by omega) (fun q hq=>HM.out q hq))
 rw [hb] at HK
 have H5:=hid h5
 simp only [h5] at HK
 rw [h5]
 obtain ⟨ab,ao,rfl,hB,hcl⟩:=hc (by rw [insW_length]; omega)
 clear hlb h5 hi hb h4
 go_enter Tryz.func20,Tryz.ntmps20
 go_wp2_with fail
 go_loopw [3,4,5,6] (fun o i _ _ wr=>∃ k:Nat,k≤5∧i=.int .i64 k∧BitsE w (inBits ((insN ls).take k)) (16 * k) o wr) (fun _ i _ _ _=>5 - (intOf i).toNat)
 case atStart=>exact ⟨0,Nat.zero_le _,rfl,some ⟨w.heap.size,0,none⟩,0,rfl,rfl,own_lit (size:=1) #[] 0 rfl (Nat.le_refl _) (Nat.zero_le _) rfl,(Below.refl _ _).alloc (Nat.le_refl _) _⟩
 case round =>
  obtain ⟨k,hk,rfl,hS⟩:=hrel
  by_cases hlt:k < 5
  ·obtain ⟨⟨A1,c1,l⟩,hq⟩:∃ q,ls[k]? = some q:=⟨_,List.getElem?_eq_getElem (by have:=H5.out; omega)⟩
   obtain ⟨hl4,hln⟩:=H4.out _ (List.mem_of_getElem? hq)
   dsimp only at hl4 hln
   have hst:=inBits_step (insN_get hq)
   dsimp only at hst
   obtain ⟨b',off',rfl,hB',hcl'⟩:=HI.out k _ hq (by dsimp only; rw [ints_length]; omega)
   have d0:=hcl k _ (insW_get hq)
   dsimp only at d0
   rw [hl4] at d0
   have hlt':(k:Int) < 5:=by omega
   have HD:=hid (show Below w.heap.size w wr from by obtain ⟨_,_,_,_,_,h⟩:=hS; exact h)
   have zw:=HD.out.size
   have HS:=hid hS
   have HST:=hid hst
   have d1:wr.cell? ⟨ab,ao + k,none⟩=some (.slice (some ⟨b',off',none⟩) 4 c1):=(HD.out.cell (p:=⟨ab,ao + k,none⟩) hB).trans d0
   have HCL:=hid (fun (j:Nat) (x:Int) (h:l[j]? = some x)=>hcl' j _ (ints_get h))
   have HL:=hid (And.intro hl4 hln)
   have HX:=hid (And.intro hq d0)
   clear hS hq hst hl4 hln hcl' d0
   go_wp2_with (go_at_call 42; (with_reducible refine (HK.out _ HD.out).mono ?_); rintro e w' ⟨rfl,rfl⟩)
   go_loopw [3,5,6] (fun o i _ wr=>∃ j:Nat,j≤4∧i=.int .i64 j∧BitsE w (inBits ((insN ls).take k) ++ bits16 (l.take j)) (16 * k + 4 * j) o wr) (fun _ i _ _=>4 - (intOf i).toNat)
   case atStart=>exact ⟨0,Nat.zero_le _,rfl,by rw [show bits16 (l.take 0)=[] from rfl,List.append_nil]; exact HS.out⟩
   case round =>
    obtain ⟨j,hj,rfl,hS⟩:=hrel
    by_cases hlt2:j < 4
    ·have hlt2':(j:Int) < 4:=by omega
     obtain ⟨x,hx⟩:∃ x,l[j]? = some x:=⟨_,List.getElem?_eq_getElem (by have:=HL.out.1; omega)⟩
     have hx15:=inB_iff.1 (List.all_eq_true.1 HL.out.2 x (List.mem_of_getElem? hx))
     have HS2:=hid (And.intro hS (bits16_step hx))
     have HD2:=hid (show Below w.heap.size w wr from by obtain ⟨_,_,_,_,_,h⟩:=hS; exact h)
     have zw2:=HD2.out.size
     have d2:wr.cell? ⟨b',off' + j,none⟩=some (.int .i64 x):=(HD2.out.cell (p:=⟨b',off' + j,none⟩) hB').trans (HCL.out j x hx)
     have HX2:=hid hx
     clear hS hx d1
     go_wp2_with fail
     go_loopw [3,6] (fun o i wr=>∃ m:Nat,m≤4∧i=.int .i64 m∧BitsE w (inBits ((insN ls).take k) ++ bits16 (l.take j) ++ (bits4 x).take m) (16 * k + 4 * j + m) o wr) (fun _ i _=>4 - (intOf i).toNat)
     case atStart=>exact ⟨0,Nat.zero_le _,rfl,by rw [List.take_zero,List.append_nil]; exact HS2.out.1⟩
     case round =>
      obtain ⟨m,hm,rfl,A',c',hlen,rfl,hown,hbw⟩:=hrel
      have zw3:=hbw.size
      obtain ⟨xs,hxs⟩:∃ q,inBits ((insN ls).take k) ++ bits16 (l.take j) ++ (bits4 x).take m=q:=⟨_,rfl⟩
      rw [hxs] at hlen hown
      by_cases hlt3:m < 4
      ·have hlt3':(m:Int) < 4:=by omega
       have hbt:=bit_take hx15.1 hx15.2 hlt3
       have HE:=hid (show inBits ((insN ls).take k) ++ bits16 (l.take j) ++ (bits4 x).take (m + 1)=xs ++ [bits .and .i64 (x / 2 ^ m) 1] by rw [hbt,←List.append_assoc,hxs])
       have d1:wr.cell? ⟨ab,ao + k,none⟩=some (.slice (some ⟨b',off',none⟩) 4 c1):=(hbw.cell (p:=⟨ab,ao + k,none⟩) hB).trans HX.out.2
       have d3:wr.cell? ⟨b',off' + j,none⟩=some (.int .i64 x):=(hbw.cell (p:=⟨b',off' + j,none⟩) hB').trans (HCL.out j x HX2.out)
       have HO:=hid (And.intro hown (And.intro hbw hlen))
       clear hbt hxs hown hbw hlen d2
       go_wp2_with (at_builtin; refine app_inti rfl _ _ rfl (base:=w.heap.size) (L:=xs) (v:=Value.slice A' (16 * k + 4 * j + m) c') rfl (HO.out.1.alloc _) (by simp; omega) [bits .and .i64 (x / 2 ^ m) 1] rfl rfl (top_cells _ [_] _) (by omega) ?_)
       intro A3 c3 w3 ho3 hg3 hl3
       have hlo:=own_in HO.out.1
       have HF:=hid (And.intro ho3 (gr_below (grown_alloc hg3) HO.out.2.1 (by omega) (fun p hp=>by have:=(hlo p hp).1; omega)))
       clear ho3 hg3 hl3 hlo d1 d3
       go_wp2
       go_roundw
       case rel=>exact ⟨m + 1,by omega,by go_num,A3,c3,by rw [HE.out,List.length_append,HO.out.2.2]; rfl,rfl,by rw [HE.out]; exact HF.out.1,HF.out.2⟩
       case measure=>simp [intOf]; omega
      ·obtain rfl:m=4:=by omega
       have HF:=hid (And.intro hown (And.intro hbw (And.intro hlen hxs)))
       clear hown hbw hlen hxs d2
       go_wp2
       go_roundw
       case rel =>
        have e:inBits ((insN ls).take k) ++ bits16 (l.take (j + 1))=xs:=by rw [HS2.out.2,←List.append_assoc]; exact HF.out.2.2.2
        exact ⟨j + 1,by omega,by go_num,A',c',by rw [e]; exact HF.out.2.2.1,rfl,by rw [e]; exact HF.out.1,HF.out.2.1⟩
       case measure=>simp [intOf]; omega
    ·obtain rfl:j=4:=by omega
     have HS2:=hid hS
     clear hS d1
     go_wp2
     go_roundw
     case rel =>
      refine ⟨k + 1,by omega,by go_num,?_⟩
      have h:=HS2.out
      rw [show l.take 4=l by rw [←HL.out.1,List.take_length],←HST.out] at h
      exact h
     case measure=>simp [intOf]; omega
  ·obtain rfl:k=5:=by omega
   have h:=hS
   rw [show (insN ls).take 5=insN ls by rw [←H5.out,←insN_length,List.take_length]] at h
   obtain ⟨A',c',hlen,rfl,hown,hbw⟩:=h
   have HF:=hid (And.intro hown hbw)
   clear hS hown hbw hlen
   go_wp2
   go_ret
   exact ⟨A',c',rfl,HF.out.1,HF.out.2⟩
end Go.Proofs.YtihbaieiempjeaaGreat
