/- Lemmas of the proof: VwT. -/
import Derived.Test.YtihbaieiempjeaaGreatB0
import Derived.Test.YtihbaieiempjeaaGreatB26
namespace Go.Proofs.YtihbaieiempjeaaGreat
open Go.RowKit
theorem Touch.of_bel {L:List Nat} {w w':World} (h:Below w.heap.size w w'):Touch L w w':=⟨h.os,h.tape,h.output,h.size,fun i hi _=>h.block i hi⟩
theorem Touch.grownL {L:List Nat} {w w1 w2:World} {row:Option Nat} (h:Touch L w w1) (hg:w1.grownBy w2 row) (hr:∀ q,row=some q→q∈L∨w.heap.size≤q):Touch L w w2 :=
 ⟨hg.os.trans h.os,hg.tape.trans h.tape,hg.output.trans h.output,Nat.le_trans h.size hg.size,fun i hi hn=>(hg.block i (Nat.lt_of_lt_of_le hi h.size) (fun e=>by rcases hr i e.symm with h | h; exact hn h; omega)).trans (h.block i hi hn)⟩
def CutG (d:Int) (zs ts:List Int) (W:World) (v u:Value) (wx:World):Prop :=
 ∃ b Z cz T ct,v=.pointer (some ⟨b,0,none⟩)∧u=.bool true∧W.heap.size≤b∧Blk wx b TGb #[.int .i64 d,.slice Z zs.length cz,.slice T ts.length ct] ∧
  (wx.ownsRow W.heap.size 3 1 (.slice Z zs.length cz) zs.length (ints zs)∧wx.ownsRow W.heap.size 3 1 (.slice T ts.length ct) ts.length (ints ts))∧Below W.heap.size W wx
set_option linter.unusedVariables false in
set_option maxRecDepth 100000 in
set_option maxHeartbeats 6400000 in
theorem sValuesSeen (A:Option Addr) (c:Nat) (L:List St) (Ai:Option Addr) (ci:Nat) (ls:List In1) (s a:Int) (w:World) (hc:Cells w w.heap.size A (ints (flatS L))) (hn:L.length≤1000000000) (hci:Cells w w.heap.size Ai (insW ls)) (hi:InsW w w.heap.size ls) (hm:ls.length + totL ls≤1000000000) :
  Calls Tryz.prog 34 #[.slice A L.length c,.slice Ai ls.length ci,.agg #[.int .i64 s,.int .i64 a]] w (GivesInts w (seenV L (insN ls) s a)):=by
 have HWV:=hid (fun w' (h:Below w.heap.size w w')=>sWireView A c L Ai ci ls s a w' ((hc.below h).more h.size) hn ((hci.below h).more h.size) ((hi.below h (Nat.le_refl _)).more h.size) hm)
 cases hv:viewB L (insN ls) s a
 ·unfold seenV
  unfold viewL at HWV
  rw [hv,if_neg Bool.false_ne_true] at HWV ⊢
  clear hc hci hi hm hn hv
  go_enter Tryz.func34,Tryz.ntmps34
  have b_0:=(Below.refl w.heap.size w)
  have s_0:=b_0.size
  go_upto_region 2 with fail
  refine wp_forget2 (w0:=w) (B:=w.heap.size) (b0:=w.heap.size) (t0:=27) (c0:=#[.int .i64 s,.int .i64 a]) (b1:=w.heap.size + 1) (t1:=3) (c1:=#[]) ?_ ?_ ?_ ?_
  (focus exact blkcBy2)
  (focus exact blkcBy2)
  (focus (exact belBy))
  intro w1 t_1 o_1 hX1
  have sX1:=hX1.size
  have t_lt:=t_1.lt
  have o_lt:=o_1.lt
  have b_1:=b_0.trans (hX1.mono (by omega))
  clear b_0 hX1
  have cell_t:=t_1.cell
  have froz_t:=t_1.frozen
  have lt_t:=t_1.lt
  have cell_o:=o_1.cell
  have froz_o:=o_1.frozen
  have lt_o:=o_1.lt
  go_wp2_with fail
  refine calls_forget0 (W:=w1) ?_ ?_
  (focus (exact belBy))
  intro X2 hX2
  have sX2:=hX2.size
  refine (HWV.out _ (b_1.trans (hX2.mono (by omega)))).mono ?_
  rintro e w2 ⟨Aw,cw,rfl,wv_2,hb2⟩
  have s2:=hb2.size
  have hT2:=hX2.trans (hb2.mono sX2)
  have b_2:=b_1.trans (hT2.mono (by omega))
  have t_2:=Blk.past hT2 t_1
  have o_2:=Blk.past hT2 o_1
  have wv_in:=own_in wv_2
  clear t_1 o_1 b_1 cell_t froz_t lt_t cell_o froz_o lt_o hX2 hT2 hb2
  have cell_t:=t_2.cell
  have froz_t:=t_2.frozen
  have lt_t:=t_2.lt
  have cell_o:=o_2.cell
  have froz_o:=o_2.frozen
  have lt_o:=o_2.lt
  have HB:=hid (And.intro (own_empty (base:=w.heap.size) (size:=1) o_2 (by omega)) b_2)
  clear b_2 wv_2 o_2
  go_wp2
  go_ret
  exact ⟨_,_,rfl,HB.out.1,HB.out.2⟩
 ·obtain ⟨hu,hib,h1,h2⟩:=viewB_iff.1 hv
  unfold seenV
  unfold viewL at HWV
  rw [hv,if_pos rfl] at HWV ⊢
  have hcv:=compL_valid hu
  have hol:=comp_outs L
  have hcir:=cir_valid hu
  obtain ⟨m,hom,hm9⟩:=cirO_len hu
  have hom6:(cirO L).length≤1000000:=by omega
  have hdl:=delta_label s a
  have hzl:=(gar_ok s a hcir hom6).z
  have hzn:(garZs s a (cirG L)).length=(cirG L).length:=gar_zeros _ _ _ _
  have hwn:=wireL_length s a (cirG L) (labsTo s a (inBits (insN ls)) 80)
  have hg6:=(circ_parts hcir).1
  have HC:=hid (fun w hc=>sCompile A c L w hc hn)
  rw [hu] at HC
  have HO:=hid (fun G O cg co w hg ho=>(show Calls Tryz.prog 19 #[.agg #[.slice G (compL L).g.length cg,.slice O (compL L).o.length co]] w (GivesK w (cirG L) (cirO L)) from sOptimize G O cg co (compL L).g (compL L).o w hg ho hcv hol))
  have HGA:=hid (fun G O cg co w hg ho=>(show Calls Tryz.prog 73 #[.agg #[.slice G (cirG L).length cg,.slice O (cirO L).length co],.agg #[.int .i64 s,.int .i64 a]] w (GivesG w (deltaI s a) (garZs s a (cirG L)) (garTs s a (cirG L))) from sGarble G O cg co (cirG L) (cirO L) s a w hg ho hcir hom6 h1 (by omega)))
  obtain ⟨g0,hg0⟩:∃ x,(compL L).g=x:=⟨_,rfl⟩
  obtain ⟨o0,ho0⟩:∃ x,(compL L).o=x:=⟨_,rfl⟩
  rw [hg0,ho0] at HC HO
  obtain ⟨zs,hzs⟩:∃ x,garZs s a (cirG L)=x:=⟨_,rfl⟩
  obtain ⟨ts,hts⟩:∃ x,garTs s a (cirG L)=x:=⟨_,rfl⟩
  obtain ⟨ws,hws⟩:∃ x,wireL s a (cirG L) (labsTo s a (inBits (insN ls)) 80)=x:=⟨_,rfl⟩
  obtain ⟨d,hd⟩:∃ x,deltaI s a=x:=⟨_,rfl⟩
  rw [hzs,hts,hd] at HGA
  rw [hws] at HWV hwn
  rw [hzs,hd,hws]
  rw [hzs] at hzl hzn
  rw [hd] at hdl
  obtain ⟨gs,hgs⟩:∃ x,cirG L=x:=⟨_,rfl⟩
  obtain ⟨os,hos⟩:∃ x,cirO L=x:=⟨_,rfl⟩
  rw [hgs,hos] at HO HGA
  have hzw:ws.length≤zs.length:=by omega
  have hw6:ws.length≤6000:=by omega
  have HSL:=hid (seenL_len zs d ws)
  clear hci hi hm hn hv hu hib h1 h2 hcv hol hcir hom hm9 hom6 hzn hwn hg6 hg0 ho0 hzs hts hws hd hgs hos
  go_enter Tryz.func34,Tryz.ntmps34
  have b_0:=(Below.refl w.heap.size w)
  have s_0:=b_0.size
  have xs_0:=hc
  clear hc
  go_upto_region 2 with fail
  refine wp_forget2 (w0:=w) (B:=w.heap.size) (b0:=w.heap.size) (t0:=27) (c0:=#[.int .i64 s,.int .i64 a]) (b1:=w.heap.size + 1) (t1:=3) (c1:=#[]) ?_ ?_ ?_ ?_
  (focus exact blkcBy2)
  (focus exact blkcBy2)
  (focus (exact belBy))
  intro w1 t_1 o_1 hX1
  have sX1:=hX1.size
  have t_lt:=t_1.lt
  have o_lt:=o_1.lt
  have b_1:=b_0.trans (hX1.mono (by omega))
  have xs_1:=cells_below xs_0 hX1 (by omega)
  clear xs_0 b_0 hX1
  have cell_t:=t_1.cell
  have froz_t:=t_1.frozen
  have lt_t:=t_1.lt
  have cell_o:=o_1.cell
  have froz_o:=o_1.frozen
  have lt_o:=o_1.lt
  go_wp2_with fail
  refine calls_forget0 (W:=w1) ?_ ?_
  (focus (exact belBy))
  intro X2 hX2
  have sX2:=hX2.size
  refine (HWV.out _ (b_1.trans (hX2.mono (by omega)))).mono ?_
  rintro e w2 ⟨Aw,cw,rfl,wv_2,hb2⟩
  have s2:=hb2.size
  have hT2:=hX2.trans (hb2.mono sX2)
  have b_2:=b_1.trans (hT2.mono (by omega))
  have xs_2:=cells_below xs_1 hT2 (by omega)
  have t_2:=Blk.past hT2 t_1
  have o_2:=Blk.past hT2 o_1
  have wv_in:=own_in wv_2
  clear xs_1 t_1 o_1 b_1 cell_t froz_t lt_t cell_o froz_o lt_o hX2 hT2 hb2
  have cell_t:=t_2.cell
  have froz_t:=t_2.frozen
  have lt_t:=t_2.lt
  have cell_o:=o_2.cell
  have froz_o:=o_2.frozen
  have lt_o:=o_2.lt
  go_wp2_with fail
  refine calls_forget0 (W:=w2) ?_ ?_
  (focus (exact belBy))
  intro X3 hX3
  have sX3:=hX3.size
  refine (HC.out _ ((cells_below xs_2 hX3 (by omega)).more (by omega))).mono ?_
  rintro e w3 ⟨G0,cg0,O0,co0,rfl,g0r_3,o0r_3,hb3⟩
  have s3:=hb3.size
  have hT3:=hX3.trans (hb3.mono sX3)
  have b_3:=b_2.trans (hT3.mono (by omega))
  have xs_3:=cells_below xs_2 hT3 (by omega)
  have wv_3:=own_below wv_2 hT3
  have t_3:=Blk.past hT3 t_2
  have o_3:=Blk.past hT3 o_2
  have g0r_in:=own_in g0r_3
  have o0r_in:=own_in o0r_3
  clear xs_2 wv_2 t_2 o_2 b_2 cell_t froz_t lt_t cell_o froz_o lt_o hX3 hT3 hb3
  have cell_t:=t_3.cell
  have froz_t:=t_3.frozen
  have lt_t:=t_3.lt
  have cell_o:=o_3.cell
  have froz_o:=o_3.frozen
  have lt_o:=o_3.lt
  go_upto_region 6 with fail
  refine wp_forget1 (w0:=w3) (B:=w3.heap.size) (b0:=w3.heap.size) (t0:=40) (c0:=#[.slice G0 g0.length cg0,.slice O0 o0.length co0]) ?_ ?_ ?_
  (focus exact blkcBy2)
  (focus (exact belBy))
  intro w4 x_4 hX4
  have sX4:=hX4.size
  have x_lt:=x_4.lt
  have b_4:=b_3.trans (hX4.mono (by omega))
  have xs_4:=cells_below xs_3 hX4 (by omega)
  have wv_4:=own_below wv_3 hX4
  have g0r_4:=own_below g0r_3 hX4
  have o0r_4:=own_below o0r_3 hX4
  have t_4:=Blk.past hX4 t_3
  have o_4:=Blk.past hX4 o_3
  clear xs_3 wv_3 g0r_3 o0r_3 t_3 o_3 b_3 cell_t froz_t lt_t cell_o froz_o lt_o hX4
  have cell_t:=t_4.cell
  have froz_t:=t_4.frozen
  have lt_t:=t_4.lt
  have cell_o:=o_4.cell
  have froz_o:=o_4.frozen
  have lt_o:=o_4.lt
  have cell_x:=x_4.cell
  have froz_x:=x_4.frozen
  have lt_x:=x_4.lt
  go_cut [12,13] (fun v12 v13 wx=>CutG d zs ts w4 v12 v13 wx)
  case first =>
   have gh_4:=hid (Below.refl w4.heap.size w4)
   have zb:=b_4.size
   clear xs_4 wv_4 o_4 cell_o froz_o lt_o wv_in
   have zl_t:=t_4.lt
   have zl_x:=x_4.lt
   try clear s0
   try clear sX0
   try clear s1
   try clear sX1
   try clear s2
   try clear sX2
   try clear s3
   try clear sX3
   try clear s4
   try clear sX4
   go_region_held3 (fun w'=>w'.cell? ⟨w.heap.size,0,none⟩=some (.int .i64 s)∧w'.cell? ⟨w.heap.size,1,none⟩=some (.int .i64 a)∧w'.cell? ⟨w3.heap.size,0,none⟩=some (.slice G0 g0.length cg0)∧w'.cell? ⟨w3.heap.size,1,none⟩=some (.slice O0 o0.length co0)) ((refine ⟨(Blk.cell (t:=27) (cs:=#[.int .i64 s,.int .i64 a]) ?qt 0),(Blk.cell ?qt 1),(Blk.cell (t:=40) (cs:=#[.slice G0 g0.length cg0,.slice O0 o0.length co0]) ?qx 0),(Blk.cell ?qx 1)⟩; (case qt=>(exact blkBy)); (case qx=>(exact blkBy)))) (first | (go_at_call 19; refine calls_forget1 (W:=w4) (b0:=w4.heap.size) (t0:=76) (c0:=#[.int .i64 0,.slice none 0 0,.slice none 0 0]) ?_ ?_ ?_; (focus exact blkcBy2); (focus (exact belBy)); intro X5 ga_n hX5; have sX5:=hX5.size; have ga_lt:=ga_n.lt; refine (HO.out _ _ _ _ _ (Cells.of_own (own_below g0r_4 hX5)) (Cells.of_own (own_below o0r_4 hX5))).mono ?_; rintro e w5 ⟨G1,cg1,O1,co1,rfl,g1_5,o1_5,hb5⟩; have s5:=hb5.size; have hT5:=hX5.trans (hb5.mono sX5); have b_5:=b_4.trans (hT5.mono (by omega)); have gh_5:=hid (gh_4.out.trans (hT5.mono (by omega))); have g0r_5:=own_below g0r_4 hT5; have o0r_5:=own_below o0r_4 hT5; have t_5:=Blk.past hT5 t_4; have x_5:=Blk.past hT5 x_4; have ga_5:=Blk.past hb5 ga_n; have g1_in:=own_in g1_5; have o1_in:=own_in o1_5; clear gh_4 g0r_4 o0r_4 t_4 x_4 b_4 cell_t froz_t lt_t cell_x froz_x lt_x ga_n hX5 hT5 hb5; have cell_t:=t_5.cell; have froz_t:=t_5.frozen; have lt_t:=t_5.lt; have cell_x:=x_5.cell; have froz_x:=x_5.frozen; have lt_x:=x_5.lt; have cell_ga:=ga_5.cell; have froz_ga:=ga_5.frozen; have lt_ga:=ga_5.lt) | (go_at_call 19; refine calls_forget0 (W:=w4) ?_ ?_; (focus (exact belBy)); intro X5 hX5; have sX5:=hX5.size; refine (HO.out _ _ _ _ _ (Cells.of_own (own_below g0r_4 hX5)) (Cells.of_own (own_below o0r_4 hX5))).mono ?_; rintro e w5 ⟨G1,cg1,O1,co1,rfl,g1_5,o1_5,hb5⟩; have s5:=hb5.size; have hT5:=hX5.trans (hb5.mono sX5); have b_5:=b_4.trans (hT5.mono (by omega)); have gh_5:=hid (gh_4.out.trans (hT5.mono (by omega))); have g0r_5:=own_below g0r_4 hT5; have o0r_5:=own_below o0r_4 hT5; have t_5:=Blk.past hT5 t_4; have x_5:=Blk.past hT5 x_4; have g1_in:=own_in g1_5; have o1_in:=own_in o1_5; clear gh_4 g0r_4 o0r_4 t_4 x_4 b_4 cell_t froz_t lt_t cell_x froz_x lt_x hX5 hT5 hb5; have cell_t:=t_5.cell; have froz_t:=t_5.frozen; have lt_t:=t_5.lt; have cell_x:=x_5.cell; have froz_x:=x_5.frozen; have lt_x:=x_5.lt) | (go_at_call 73; refine calls_forget0 (W:=w5) ?_ ?_; (focus (exact belBy)); intro X6 hX6; have sX6:=hX6.size; refine (HGA.out _ _ _ _ _ (Cells.of_own (own_below g1_5 hX6)) (Cells.of_own (own_below o1_5 hX6))).mono ?_; rintro e w6 ⟨Z,cz,T,ct,rfl,zz_6,tt_6,hb6⟩; have s6:=hb6.size; have hT6:=hX6.trans (hb6.mono sX6); have b_6:=b_5.trans (hT6.mono (by omega)); have gh_6:=hid (gh_5.out.trans (hT6.mono (by omega))); have g0r_6:=own_below g0r_5 hT6; have o0r_6:=own_below o0r_5 hT6; have g1_6:=own_below g1_5 hT6; have o1_6:=own_below o1_5 hT6; have t_6:=Blk.past hT6 t_5; have x_6:=Blk.past hT6 x_5; have ga_6:=Blk.past hT6 ga_5; have zz_in:=own_in zz_6; have tt_in:=own_in tt_6; clear gh_5 g0r_5 o0r_5 g1_5 o1_5 t_5 x_5 ga_5 b_5 cell_t froz_t lt_t cell_x froz_x lt_x cell_ga froz_ga lt_ga hX6 hT6 hb6; have cell_t:=t_6.cell; have froz_t:=t_6.frozen; have lt_t:=t_6.lt; have cell_x:=x_6.cell; have froz_x:=x_6.frozen; have lt_x:=x_6.lt; have cell_ga:=ga_6.cell; have froz_ga:=ga_6.frozen; have lt_ga:=ga_6.lt) | (go_at_call 73; refine calls_forget1 (W:=w5) (b0:=w5.heap.size) (t0:=76) (c0:=#[.int .i64 0,.slice none 0 0,.slice none 0 0]) ?_ ?_ ?_; (focus exact blkcBy2); (focus (exact belBy)); intro X6 ga_n hX6; have sX6:=hX6.size; have ga_lt:=ga_n.lt; refine (HGA.out _ _ _ _ _ (Cells.of_own (own_below g1_5 hX6)) (Cells.of_own (own_below o1_5 hX6))).mono ?_; rintro e w6 ⟨Z,cz,T,ct,rfl,zz_6,tt_6,hb6⟩; have s6:=hb6.size; have hT6:=hX6.trans (hb6.mono sX6); have b_6:=b_5.trans (hT6.mono (by omega)); have gh_6:=hid (gh_5.out.trans (hT6.mono (by omega))); have g0r_6:=own_below g0r_5 hT6; have o0r_6:=own_below o0r_5 hT6; have g1_6:=own_below g1_5 hT6; have o1_6:=own_below o1_5 hT6; have t_6:=Blk.past hT6 t_5; have x_6:=Blk.past hT6 x_5; have ga_6:=Blk.past hb6 ga_n; have zz_in:=own_in zz_6; have tt_in:=own_in tt_6; clear gh_5 g0r_5 o0r_5 g1_5 o1_5 t_5 x_5 b_5 cell_t froz_t lt_t cell_x froz_x lt_x ga_n hX6 hT6 hb6; have cell_t:=t_6.cell; have froz_t:=t_6.frozen; have lt_t:=t_6.lt; have cell_x:=x_6.cell; have froz_x:=x_6.frozen; have lt_x:=x_6.lt; have cell_ga:=ga_6.cell; have froz_ga:=ga_6.frozen; have lt_ga:=ga_6.lt) | (go_at_call 73; refine calls_forget0 (W:=w5) ?_ ?_; (focus (exact belBy)); intro X6 hX6; have sX6:=hX6.size; refine (HGA.out _ _ _ _ _ (Cells.of_own (own_below g1_5 hX6)) (Cells.of_own (own_below o1_5 hX6))).mono ?_; rintro e w6 ⟨Z,cz,T,ct,rfl,zz_6,tt_6,hb6⟩; have s6:=hb6.size; have hT6:=hX6.trans (hb6.mono sX6); have b_6:=b_5.trans (hT6.mono (by omega)); have gh_6:=hid (gh_5.out.trans (hT6.mono (by omega))); have g0r_6:=own_below g0r_5 hT6; have o0r_6:=own_below o0r_5 hT6; have g1_6:=own_below g1_5 hT6; have o1_6:=own_below o1_5 hT6; have t_6:=Blk.past hT6 t_5; have x_6:=Blk.past hT6 x_5; have zz_in:=own_in zz_6; have tt_in:=own_in tt_6; clear gh_5 g0r_5 o0r_5 g1_5 o1_5 t_5 x_5 b_5 cell_t froz_t lt_t cell_x froz_x lt_x hX6 hT6 hb6; have cell_t:=t_6.cell; have froz_t:=t_6.frozen; have lt_t:=t_6.lt; have cell_x:=x_6.cell; have froz_x:=x_6.frozen; have lt_x:=x_6.lt))
   all_goals
    go_wp2_with fail
    go_meet
    first
    | exact ⟨w4.heap.size,Z,cz,T,ct,rfl,rfl,by first | exact Nat.le_refl _ | omega,by exact blkcBy2,⟨own_weak (base:=X6.heap.size) (by repeat (first | (with_reducible assumption) | (with_reducible apply World.ownsRow.drew) | (with_reducible apply own_drewN) | (with_reducible apply World.ownsRow.alloc) | (with_reducible refine own_set ?_ _ _ (by first | omega | (simp; omega) | (dsimp only; omega))))) (by omega),own_weak (base:=X6.heap.size) (by repeat (first | (with_reducible assumption) | (with_reducible apply World.ownsRow.drew) | (with_reducible apply own_drewN) | (with_reducible apply World.ownsRow.alloc) | (with_reducible refine own_set ?_ _ _ (by first | omega | (simp; omega) | (dsimp only; omega))))) (by omega)⟩,by have gq:=gh_6.out; exact belBy⟩
    | exact ⟨w5.heap.size,Z,cz,T,ct,rfl,rfl,by first | exact Nat.le_refl _ | omega,by exact blkcBy2,⟨own_weak (base:=X6.heap.size) (by repeat (first | (with_reducible assumption) | (with_reducible apply World.ownsRow.drew) | (with_reducible apply own_drewN) | (with_reducible apply World.ownsRow.alloc) | (with_reducible refine own_set ?_ _ _ (by first | omega | (simp; omega) | (dsimp only; omega))))) (by omega),own_weak (base:=X6.heap.size) (by repeat (first | (with_reducible assumption) | (with_reducible apply World.ownsRow.drew) | (with_reducible apply own_drewN) | (with_reducible apply World.ownsRow.alloc) | (with_reducible refine own_set ?_ _ _ (by first | omega | (simp; omega) | (dsimp only; omega))))) (by omega)⟩,by have gq:=gh_6.out; exact belBy⟩
    | exact ⟨w6.heap.size,Z,cz,T,ct,rfl,rfl,by first | exact Nat.le_refl _ | omega,by exact blkcBy2,⟨own_weak (base:=X6.heap.size) (by repeat (first | (with_reducible assumption) | (with_reducible apply World.ownsRow.drew) | (with_reducible apply own_drewN) | (with_reducible apply World.ownsRow.alloc) | (with_reducible refine own_set ?_ _ _ (by first | omega | (simp; omega) | (dsimp only; omega))))) (by omega),own_weak (base:=X6.heap.size) (by repeat (first | (with_reducible assumption) | (with_reducible apply World.ownsRow.drew) | (with_reducible apply own_drewN) | (with_reducible apply World.ownsRow.alloc) | (with_reducible refine own_set ?_ _ _ (by first | omega | (simp; omega) | (dsimp only; omega))))) (by omega)⟩,by have gq:=gh_6.out; exact belBy⟩
  case rest =>
   obtain ⟨b_ga,Z,cz,T,ct,rfl,rfl,ga_ge,ga_7,⟨zz_7,tt_7⟩,hb7⟩:=hcut
   obtain ⟨w7,rfl⟩:∃ z:World,z=wc:=⟨_,rfl⟩
   have s7:=hb7.size
   have b_7:=b_4.trans (hb7.mono (by omega))
   have xs_7:=cells_below xs_4 hb7 (by omega)
   have wv_7:=own_below wv_4 hb7
   have g0r_7:=own_below g0r_4 hb7
   have o0r_7:=own_below o0r_4 hb7
   have t_7:=Blk.past hb7 t_4
   have o_7:=Blk.past hb7 o_4
   have x_7:=Blk.past hb7 x_4
   clear xs_4 wv_4 g0r_4 o0r_4 t_4 o_4 x_4 b_4 cell_t froz_t lt_t cell_o froz_o lt_o cell_x froz_x lt_x hb7
   have ga_lt:=ga_7.lt
   have zz_in:=own_off zz_7 ga_7 (by decide)
   have tt_in:=own_off tt_7 ga_7 (by decide)
   have cell_t:=t_7.cell
   have froz_t:=t_7.frozen
   have lt_t:=t_7.lt
   have cell_o:=o_7.cell
   have froz_o:=o_7.frozen
   have lt_o:=o_7.lt
   have cell_x:=x_7.cell
   have froz_x:=x_7.frozen
   have lt_x:=x_7.lt
   have cell_ga:=ga_7.cell
   have froz_ga:=ga_7.frozen
   have lt_ga:=ga_7.lt
   have zN:=b_7.size
   have HX:=hid (And.intro ga_7 (And.intro zz_7 (And.intro wv_7 b_7)))
   have hgn:b_ga≠w.heap.size + 1:=by omega
   have HO0:=hid (own_empty (base:=w.heap.size) (size:=1) o_7 (by omega))
   clear xs_7 wv_7 g0r_7 o0r_7 zz_7 tt_7 x_7 t_7 o_7 ga_7 b_7 cell_t froz_t lt_t cell_o froz_o lt_o cell_x froz_x lt_x cell_ga froz_ga lt_ga
   go_wp2_with fail
   go_loopw [7,14] (fun o i wr=>∃ (j k':Nat) (A':Option Addr),j≤ws.length∧i=.int .i64 (j:Int)∧o=.slice A' j k'∧wr.ownsRow w.heap.size 3 1 (.slice A' j k') j (ints ((seenL zs d ws).take j))∧Touch [w.heap.size + 1] w7 wr∧∀ q,(Value.slice A' j k').ownBlock=some q→q∈[w.heap.size + 1]∨w7.heap.size≤q) (fun _ i _=>ws.length - (intOf i).toNat)
   case atStart=>exact ⟨0,0,some ⟨w.heap.size + 1,0,none⟩,Nat.zero_le _,rfl,rfl,HO0.out,Touch.refl _ _,fun q hq=>.inl (by have h:w.heap.size + 1=q:=Option.some.inj hq; simp [h])⟩
   case round =>
    obtain ⟨j,k',A',hj,rfl,rfl,hown,hbw,hq⟩:=hrel
    have zw:=hbw.size
    by_cases hlt:j < ws.length
    ·obtain ⟨v,hv⟩:∃ v,ws[j]? = some v:=⟨_,List.getElem?_eq_getElem hlt⟩
     have hz:zs[j]? = some (zs.getD j 0):=by rw [List.getD_eq_getElem?_getD,List.getElem?_eq_getElem (by omega)]; rfl
     obtain ⟨z,hzd⟩:∃ z,zs.getD j 0=z:=⟨_,rfl⟩
     rw [hzd] at hz
     have hlz:=hzl _ (List.mem_of_getElem? hz)
     have hst:=take_any (seenL_get (zs:=zs) (d:=d) hv)
     rw [hzd] at hst
     have zzr:=own_touch' hbw HX.out.2.1 (fun q hq=>by have:=(own_in HX.out.2.1 q hq).1; simp; omega)
     have vvr:=own_touch' hbw HX.out.2.2.1 (fun q hq=>by have:=(own_in HX.out.2.2.1 q hq).1; simp; omega)
     have gar:=Blk.touch hbw HX.out.1 (by simp; omega)
     have HQ:=hid hq
     obtain ⟨bz,oz,e1,hBz,hcz⟩:=Cells.at_ (Cells.of_own zzr) (ints_get hz)
     obtain ⟨bv,ov,e2,hBv,hcv⟩:=Cells.at_ (Cells.of_own vvr) (ints_get hv)
     subst e1 e2
     have f0:=hcz _ _ (ints_get hz)
     have f1:=hcv _ _ (ints_get hv)
     have hlt':(j:Int) < (ws.length:Int):=by omega
     have hlz':(j:Int) < (zs.length:Int):=by omega
     have j00:(0:Int)≤(j:Int):=by omega
     have hb1:j + 1≤1000000:=by omega
     obtain ⟨xs',hxs⟩:∃ c,(seenL zs d ws).take j=c:=⟨_,rfl⟩
     rw [hxs] at hst hown
     have HST:=hid hst
     have HI:=hid (And.intro hown (And.intro hbw (gar)))
     have HFZ:=hid (And.intro f0 f1)
     clear hst hv hz hzd hcz hcv hxs hown hbw f0 zzr vvr gar hq
     go_upto_region 10 with fail
     clear f1
     have qg:=fun (X:Later wr) (o:Nat)=>(HI.out.2.2.past X.below).cell o
     have qz:=fun (X:Later wr)=>(X.below.cell (p:=⟨bz,oz + j,none⟩) (by dsimp only; omega)).trans HFZ.out.1
     have qv:=fun (X:Later wr)=>(X.below.cell (p:=⟨bv,ov + j,none⟩) (by dsimp only; omega)).trans HFZ.out.2
     refine wp_grow_tails (W:=wr) (spec:=specAt [(12,.con (.int .i64 (valueI z d v))),(13,.any (RowOf wr.heap.size 3 1 1 [.int .i64 (valueI z d v)]))]) 14 (by kernel_rfl) (by kernel_rfl) (Onward.mk' ((Below.refl _ _).drew)) (specAt_stab ?_) ?_
     ·intro p hp F hF
      simp only [List.mem_cons,List.not_mem_nil,or_false] at hp
      rcases hp with rfl | rfl
      all_goals first | (cases hF; done) | (injection hF with hF; subst hF; exact RowOf.stable)
     refine gList_quietK 12 ⟨rfl,rfl,rfl,rfl,rfl,rfl,rfl,rfl,rfl,rfl,rfl,rfl,rfl,rfl,rfl,rfl,rfl,rfl,rfl,rfl,rfl,rfl,rfl,rfl,trivial⟩ (by decide) ?_
     delta Onward
     dsimp only [List.take,List.drop]
     repeat (go_big_quiet_step (fail))
     refine wpQuiet_nil ?_
     refine gList_con (.int .i64 (valueI z d v)) rfl rfl (fun w' hC _=>?_) ?_
     ·obtain ⟨⟨w',hb⟩,rfl⟩:=hC
      exact grow_con (by simp [go_sem]) (sValueOf z d v _ hlz hdl)
     simp only [Act.put,List.setIfInBounds_toArray,List.set_cons_succ,List.set_cons_zero]
     refine gList_any (RowOf wr.heap.size 3 1 1 [.int .i64 (valueI z d v)]) rfl rfl (fun w' hC hd=>?_) (fun vr=>?_)
     ·obtain ⟨⟨w',hb⟩,rfl⟩:=hC
      exact grow_lit1i rfl rfl (fun w=>litInt _ w) hb.size
     unfold gList
     intro w' hW hfs
     have hlast:RowOf wr.heap.size 3 1 1 [.int .i64 (valueI z d v)] vr w':=hfs 13
     obtain ⟨⟨w32,hb⟩,rfl⟩:=hW
     obtain ⟨A7,c7,rfl,h7⟩:=hlast
     obtain ⟨g7,rfl,_,_,_⟩:=own_at h7 (by omega)
     have s32:=hb.size
     have H7:=hid (row_cells (show Row _ g7 _ 1 1 c7 _ from own_weak h7 (Nat.zero_le _)))
     have hko:=own_below HI.out.1 hb
     have HB5:=hid (HI.out.2.1.trans (Touch.of_bel hb))
     have hw5:=HB5.out.size
     clear qg qz qv hfs hb h7 HFZ
     dsimp only [List.drop]
     simp only [Act.put,List.setIfInBounds_toArray,List.set_cons_succ,List.set_cons_zero]
     go_wp2_with (at_builtin; refine app_ints rfl _ _ rfl (base:=w.heap.size) (L:=xs') (v:=Value.slice A' j k') rfl hko (by omega) [valueI z d v] rfl rfl H7.out hb1 ?_)
     intro A1 k1 w8 ho8 hg8 hl8
     have hlo:=own_in hko
     have HF:=hid (And.intro ho8 (And.intro (Touch.grownL HB5.out hg8 (fun q hq=>HQ.out q hq)) (fun q hq=>(hl8 q hq).elim (fun h=>HQ.out q h) (fun h=>.inr (by omega)))))
     clear ho8 hg8 hl8 hko hlo
     go_wp2
     go_roundw
     case rel=>exact ⟨j + 1,k1,A1,by omega,by go_num,rfl,by rw [HST.out]; exact HF.out.1,HF.out.2.1,HF.out.2.2⟩
     case measure=>simp [intOf]; omega
    ·obtain rfl:j=ws.length:=by omega
     rw [←HSL.out,List.take_length] at hown
     have HF:=hid (And.intro hown (hbw.below' HX.out.2.2.2 (fun i hi=>by simp at hi; omega) zN))
     clear hown hbw hq
     go_wp2
     go_ret
     have h:=HF.out
     have e:=HSL.out
     exact ⟨A',k',by rw [e]; rfl,h.1,h.2⟩
end Go.Proofs.YtihbaieiempjeaaGreat
