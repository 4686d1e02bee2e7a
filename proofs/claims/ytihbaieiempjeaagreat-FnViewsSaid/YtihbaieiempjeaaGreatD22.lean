/- Lemmas of the proof: VwI, Val, VwJ. -/
import Derived.Test.YtihbaieiempjeaaGreatD0
import Derived.Test.YtihbaieiempjeaaGreatD21
import Derived.Test.YtihbaieiempjeaaGreatD20
import Derived.Test.YtihbaieiempjeaaGreatD1
namespace Go.Proofs.YtihbaieiempjeaaGreat
open Go.RowKit
noncomputable def viewB (L:List St) (ins:List (List Int)) (s a:Int):Bool:=unrB L && insB ins && tapeOkB s a && decide (a≤800000)
noncomputable def viewL (L:List St) (ins:List (List Int)) (s a:Int):List Int:=if viewB L ins s a=true then wireL s a (cirG L) (labsTo s a (inBits ins) 80) else []
noncomputable def seenV (L:List St) (ins:List (List Int)) (s a:Int):List Int:=if viewB L ins s a=true then seenL (garZs s a (cirG L)) (deltaI s a) (wireL s a (cirG L) (labsTo s a (inBits ins) 80)) else []
theorem viewB_iff {L:List St} {ins:List (List Int)} {s a:Int}:viewB L ins s a=true↔(unrB L=true∧insB ins=true∧tapeOkB s a=true∧a≤800000):=by
 unfold viewB
 simp only [Bool.and_eq_true,decide_eq_true_eq,and_assoc]
def GivesV (w:World) (d:Int) (zs ts ws:List Int) (e:Ending) (w':World):Prop :=
 ∃ Z cz T ct V cv,e=.returned (.tuple #[.agg #[.int .i64 d,.slice Z zs.length cz,.slice T ts.length ct],.slice V ws.length cv,.bool true])∧w'.ownsRow w.heap.size 3 1 (.slice Z zs.length cz) zs.length (ints zs) ∧
  w'.ownsRow w.heap.size 3 1 (.slice T ts.length ct) ts.length (ints ts)∧w'.ownsRow w.heap.size 3 1 (.slice V ws.length cv) ws.length (ints ws)∧Below w.heap.size w w'
set_option linter.unusedVariables false in
set_option maxRecDepth 100000 in
set_option maxHeartbeats 6400000 in
theorem iViewYes (A:Option Addr) (c:Nat) (L:List St) (Ai:Option Addr) (ci:Nat) (ls:List In1) (s a:Int) (w:World) (hc:Cells w w.heap.size A (ints (flatS L))) (hn:L.length≤1000000000) (hcap:L.length≤c) (hci:Cells w w.heap.size Ai (insW ls)) (hi:InsW w w.heap.size ls) (hm:ls.length + totL ls≤1000000000) (hu:unrB L=true) (hib:insB (insN ls)=true) (h1:tapeOkB s a=true) (h2:a≤800000) :
  Calls Tryz.prog 58 #[.slice A L.length c,.slice Ai ls.length ci,.agg #[.int .i64 s,.int .i64 a]] w (GivesV w (deltaI s a) (garZs s a (cirG L)) (garTs s a (cirG L)) (wireL s a (cirG L) (labsTo s a (inBits (insN ls)) 80))):=by
 obtain ⟨B,hB⟩:∃ x,inBits (insN ls)=x:=⟨_,rfl⟩
 have hl80:=inBits_len hib
 rw [hB] at hl80 ⊢
 have hcv:=compL_valid hu
 have hol:=comp_outs L
 have hcir:=cir_valid hu
 obtain ⟨m,hom,hm9⟩:=cirO_len hu
 have hom6:(cirO L).length≤1000000:=by omega
 have hlab:=labs_labels s a B 80
 have hlen:=labsTo_length s a B 80
 have hgk:=gar_ok s a hcir hom6
 have hpk:=pub_ok s a hcir hom6
 have hwl:=wire_labels s a hcir hom6 hlab
 have hwn:=wireL_length s a (cirG L) (labsTo s a B 80)
 have HO:=hid (fun G O cg co w hg ho=>(show Calls Tryz.prog 49 #[.agg #[.slice G (compL L).g.length cg,.slice O (compL L).o.length co]] w (GivesK w (cirG L) (cirO L)) from iOptimize G O cg co (compL L).g (compL L).o w hg ho hcv hol))
 have HGA:=hid (fun G O cg co w hg ho=>(show Calls Tryz.prog 50 #[.agg #[.slice G (cirG L).length cg,.slice O (cirO L).length co],.agg #[.int .i64 s,.int .i64 a]] w (GivesG w (deltaI s a) (garZs s a (cirG L)) (garTs s a (cirG L))) from iGarble G O cg co (cirG L) (cirO L) s a w hg ho hcir hom6 h1 (by omega)))
 have HP:=hid (fun G O Z T cg co cz ct w hg ho hz ht=>(show Calls Tryz.prog 51 #[.agg #[.slice G (cirG L).length cg,.slice O (cirO L).length co],.agg #[.int .i64 (deltaI s a),.slice Z (garZs s a (cirG L)).length cz,.slice T (garTs s a (cirG L)).length ct]] w (GivesP w (garTs s a (cirG L)) (garCs s a (cirG L)) (decL (garZs s a (cirG L)) (cirO L))) from iPublicOf G O Z T cg co cz ct (cirG L) (cirO L) (deltaI s a) (garZs s a (cirG L)) (garTs s a (cirG L)) w hg ho hz ht hgk))
 have HE:=hid (fun G O T K D Q cg co ct ck cd cl w hg ho ht hc hd hl=>(show Calls Tryz.prog 52 #[.agg #[.slice G (cirG L).length cg,.slice O (cirO L).length co],.agg #[.slice T (garTs s a (cirG L)).length ct,.slice K (garCs s a (cirG L)).length ck,.slice D (decL (garZs s a (cirG L)) (cirO L)).length cd],.slice Q (labsTo s a B 80).length cl] w (GivesR w (wireL s a (cirG L) (labsTo s a B 80))) from iEvalGarbled G O T K D Q cg co ct ck cd cl (cirG L) (cirO L) _ _ _ (labsTo s a B 80) w hg ho ht hc hd hl hpk hlab hlen))
 have HC:=hid (fun w hc=>iCompile A c L w hc hn hcap)
 have HIO:=hid (fun w' (h:Below w.heap.size w w')=>iInsOk Ai ci ls w' ((hci.below h).more h.size) ((hi.below h (Nat.le_refl _)).more h.size) (by omega) (fun q hq=>by have:=totL_mem hq; omega))
 have HIB:=hid (fun w' (h:Below w.heap.size w w')=>iInBits Ai ci ls w' ((hci.below h).more h.size) ((hi.below h (Nat.le_refl _)).more h.size) hib)
 have HIL:=hid (fun A c w hc=>by
  have q:=iInputLabels s a A c B w h1 (by omega) (by rw [←hB]; exact inBits_bits _) (by omega) hc
  rwa [hl80] at q)
 have HTK:=hid (fun w=>iTapeOk s a w)
 rw [h1] at HTK
 rw [hu] at HC
 rw [hib] at HIO
 rw [hB] at HIB
 have ha8:decide ((800000:Int) < a)=false:=by simp; omega
 obtain ⟨g0,hg0⟩:∃ x,(compL L).g=x:=⟨_,rfl⟩
 obtain ⟨o0,ho0⟩:∃ x,(compL L).o=x:=⟨_,rfl⟩
 obtain ⟨gs,hgs⟩:∃ x,cirG L=x:=⟨_,rfl⟩
 obtain ⟨os,hos⟩:∃ x,cirO L=x:=⟨_,rfl⟩
 obtain ⟨d,hd⟩:∃ x,deltaI s a=x:=⟨_,rfl⟩
 rw [hg0,ho0,hgs,hos] at HO
 rw [hgs,hos,hd] at HGA
 rw [hgs,hos,hd] at HP
 rw [hgs,hos] at HE
 rw [hgs,hd]
 rw [hg0,ho0] at HC
 obtain ⟨zs,hzs⟩:∃ x,garZs s a gs=x:=⟨_,rfl⟩
 obtain ⟨ts,hts⟩:∃ x,garTs s a gs=x:=⟨_,rfl⟩
 obtain ⟨cs,hcs⟩:∃ x,garCs s a gs=x:=⟨_,rfl⟩
 rw [hzs,hts] at HGA
 rw [hzs,hts,hcs] at HP
 rw [hts,hcs,hzs] at HE
 obtain ⟨ds,hds⟩:∃ x,decL zs os=x:=⟨_,rfl⟩
 obtain ⟨LS,hLS⟩:∃ x,labsTo s a B 80=x:=⟨_,rfl⟩
 obtain ⟨ws,hws⟩:∃ x,wireL s a gs LS=x:=⟨_,rfl⟩
 rw [hzs,hts]
 rw [hds] at HP
 rw [hds,hLS,hws] at HE
 rw [hLS] at HIL
 rw [hLS,hws]
 clear hcv hol hcir hom hm9 hom6 hlab hlen hgk hpk hwl hwn hg0 ho0 hgs hos hd hzs hts hcs hds hLS hws hu hib h1 h2 hl80 hB hci hi hm hn hcap
 go_enter Tryz.func58,Tryz.ntmps58
 have b_0:=(Below.refl w.heap.size w)
 have s_0:=b_0.size
 have xs_0:=hc
 clear hc
 go_upto_region 1 with fail
 refine wp_forget2 (w0:=w) (B:=w.heap.size) (b0:=w.heap.size) (t0:=27) (c0:=#[.int .i64 s,.int .i64 a]) (b1:=w.heap.size + 1) (t1:=76) (c1:=#[.int .i64 0,.slice none 0 0,.slice none 0 0]) ?_ ?_ ?_ ?_
 (focus exact blkcBy2)
 (focus exact blkcBy2)
 (focus (exact belBy))
 intro w1 t_1 rg_1 hX1
 have sX1:=hX1.size
 have t_lt:=t_1.lt
 have rg_lt:=rg_1.lt
 have b_1:=b_0.trans (hX1.mono (by omega))
 have xs_1:=cells_below xs_0 hX1 (by omega)
 clear xs_0 b_0 hX1
 have cell_t:=t_1.cell
 have froz_t:=t_1.frozen
 have lt_t:=t_1.lt
 have cell_rg:=rg_1.cell
 have froz_rg:=rg_1.frozen
 have lt_rg:=rg_1.lt
 go_wp2_with fail
 refine calls_forget0 (W:=w1) ?_ ?_
 (focus (exact belBy))
 intro X2 hX2
 have sX2:=hX2.size
 refine (HC.out _ ((cells_below xs_1 hX2 (by omega)).more (by omega))).mono ?_
 rintro e w2 ⟨G0,cg0,O0,co0,rfl,g0r_2,o0r_2,hb2⟩
 have s2:=hb2.size
 have hT2:=hX2.trans (hb2.mono sX2)
 have b_2:=b_1.trans (hT2.mono (by omega))
 have xs_2:=cells_below xs_1 hT2 (by omega)
 have t_2:=Blk.past hT2 t_1
 have rg_2:=Blk.past hT2 rg_1
 have g0r_in:=own_in g0r_2
 have o0r_in:=own_in o0r_2
 clear xs_1 t_1 rg_1 b_1 cell_t froz_t lt_t cell_rg froz_rg lt_rg hX2 hT2 hb2
 have cell_t:=t_2.cell
 have froz_t:=t_2.frozen
 have lt_t:=t_2.lt
 have cell_rg:=rg_2.cell
 have froz_rg:=rg_2.frozen
 have lt_rg:=rg_2.lt
 go_upto_region 2 with fail
 refine wp_forget1 (w0:=w2) (B:=w2.heap.size) (b0:=w2.heap.size) (t0:=40) (c0:=#[.slice G0 g0.length cg0,.slice O0 o0.length co0]) ?_ ?_ ?_
 (focus exact blkcBy2)
 (focus (exact belBy))
 intro w3 x_3 hX3
 have sX3:=hX3.size
 have x_lt:=x_3.lt
 have b_3:=b_2.trans (hX3.mono (by omega))
 have xs_3:=cells_below xs_2 hX3 (by omega)
 have g0r_3:=own_below g0r_2 hX3
 have o0r_3:=own_below o0r_2 hX3
 have t_3:=Blk.past hX3 t_2
 have rg_3:=Blk.past hX3 rg_2
 clear xs_2 g0r_2 o0r_2 t_2 rg_2 b_2 cell_t froz_t lt_t cell_rg froz_rg lt_rg hX3
 have cell_t:=t_3.cell
 have froz_t:=t_3.frozen
 have lt_t:=t_3.lt
 have cell_rg:=rg_3.cell
 have froz_rg:=rg_3.frozen
 have lt_rg:=rg_3.lt
 have cell_x:=x_3.cell
 have froz_x:=x_3.frozen
 have lt_x:=x_3.lt
 go_wp2_with fail
 refine calls_forget0 (W:=w3) ?_ ?_
 (focus (exact belBy))
 intro X4 hX4
 have sX4:=hX4.size
 refine (HIO.out _ (b_3.trans (hX4.mono (by omega)))).mono ?_
 rintro e w' ⟨rfl,rfl⟩
 have b_4:=b_3.trans (hX4.mono (by omega))
 have xs_4:=cells_below xs_3 hX4 (by omega)
 have g0r_4:=own_below g0r_3 hX4
 have o0r_4:=own_below o0r_3 hX4
 have t_4:=Blk.past hX4 t_3
 have rg_4:=Blk.past hX4 rg_3
 have x_4:=Blk.past hX4 x_3
 clear xs_3 g0r_3 o0r_3 t_3 rg_3 x_3 b_3 cell_t froz_t lt_t cell_rg froz_rg lt_rg cell_x froz_x lt_x hX4
 have cell_t:=t_4.cell
 have froz_t:=t_4.frozen
 have lt_t:=t_4.lt
 have cell_rg:=rg_4.cell
 have froz_rg:=rg_4.frozen
 have lt_rg:=rg_4.lt
 have cell_x:=x_4.cell
 have froz_x:=x_4.frozen
 have lt_x:=x_4.lt
 go_wp2_with fail
 refine calls_forget0 (W:=X4) ?_ ?_
 (focus (exact belBy))
 intro X5 hX5
 have sX5:=hX5.size
 refine (HTK.out _).mono ?_
 rintro e w5 ⟨rfl,hb5⟩
 have s5:=hb5.size
 have hT5:=hX5.trans (hb5.mono sX5)
 have b_5:=b_4.trans (hT5.mono (by omega))
 have xs_5:=cells_below xs_4 hT5 (by omega)
 have g0r_5:=own_below g0r_4 hT5
 have o0r_5:=own_below o0r_4 hT5
 have t_5:=Blk.past hT5 t_4
 have rg_5:=Blk.past hT5 rg_4
 have x_5:=Blk.past hT5 x_4
 clear xs_4 g0r_4 o0r_4 t_4 rg_4 x_4 b_4 cell_t froz_t lt_t cell_rg froz_rg lt_rg cell_x froz_x lt_x hX5 hT5 hb5
 have cell_t:=t_5.cell
 have froz_t:=t_5.frozen
 have lt_t:=t_5.lt
 have cell_rg:=rg_5.cell
 have froz_rg:=rg_5.frozen
 have lt_rg:=rg_5.lt
 have cell_x:=x_5.cell
 have froz_x:=x_5.frozen
 have lt_x:=x_5.lt
 go_wp2_with fail
 refine calls_forget0 (W:=w5) ?_ ?_
 (focus (exact belBy))
 intro X6 hX6
 have sX6:=hX6.size
 refine (HO.out _ _ _ _ _ (Cells.of_own (own_below g0r_5 hX6)) (Cells.of_own (own_below o0r_5 hX6))).mono ?_
 rintro e w6 ⟨G1,cg1,O1,co1,rfl,g1_6,o1_6,hb6⟩
 have s6:=hb6.size
 have hT6:=hX6.trans (hb6.mono sX6)
 have b_6:=b_5.trans (hT6.mono (by omega))
 have xs_6:=cells_below xs_5 hT6 (by omega)
 have g0r_6:=own_below g0r_5 hT6
 have o0r_6:=own_below o0r_5 hT6
 have t_6:=Blk.past hT6 t_5
 have rg_6:=Blk.past hT6 rg_5
 have x_6:=Blk.past hT6 x_5
 have g1_in:=own_in g1_6
 have o1_in:=own_in o1_6
 clear xs_5 g0r_5 o0r_5 t_5 rg_5 x_5 b_5 cell_t froz_t lt_t cell_rg froz_rg lt_rg cell_x froz_x lt_x hX6 hT6 hb6
 have cell_t:=t_6.cell
 have froz_t:=t_6.frozen
 have lt_t:=t_6.lt
 have cell_rg:=rg_6.cell
 have froz_rg:=rg_6.frozen
 have lt_rg:=rg_6.lt
 have cell_x:=x_6.cell
 have froz_x:=x_6.frozen
 have lt_x:=x_6.lt
 go_upto_region 5 with fail
 refine wp_touch1 (w0:=w6) (L:=[w2.heap.size]) (b0:=w2.heap.size) (t0:=40) (c0:=#[.slice G1 gs.length cg1,.slice O1 os.length co1]) ?_ ?_ ?_
 (focus exact blkcBy2)
 (focus (exact tchBy))
 intro w7 x_7 hX7
 have sX7:=hX7.size
 have b_7:=hX7.below b_6 (by first | (simp; done) | (simp; omega))
 have xs_7:=cells_touch hX7 xs_6 (by omega) (by first | (simp; done) | (simp; omega))
 have g0r_7:=own_touch' hX7 g0r_6 (fun q hq=>by have h1:=g0r_in q hq; (try have e0:=own_ne_obj g0r_6 x_6 (by decide) q hq); simp; omega)
 have o0r_7:=own_touch' hX7 o0r_6 (fun q hq=>by have h1:=o0r_in q hq; (try have e0:=own_ne_obj o0r_6 x_6 (by decide) q hq); simp; omega)
 have g1_7:=own_touch' hX7 g1_6 (fun q hq=>by have h1:=g1_in q hq; (try have e0:=own_ne_obj g1_6 x_6 (by decide) q hq); simp; omega)
 have o1_7:=own_touch' hX7 o1_6 (fun q hq=>by have h1:=o1_in q hq; (try have e0:=own_ne_obj o1_6 x_6 (by decide) q hq); simp; omega)
 have t_7:=Blk.touch hX7 t_6 (by first | (simp; done) | (simp; omega))
 have rg_7:=Blk.touch hX7 rg_6 (by first | (simp; done) | (simp; omega))
 clear xs_6 g0r_6 o0r_6 g1_6 o1_6 t_6 rg_6 x_6 b_6 cell_t froz_t lt_t cell_rg froz_rg lt_rg cell_x froz_x lt_x hX7
 have cell_t:=t_7.cell
 have froz_t:=t_7.frozen
 have lt_t:=t_7.lt
 have cell_rg:=rg_7.cell
 have froz_rg:=rg_7.frozen
 have lt_rg:=rg_7.lt
 have cell_x:=x_7.cell
 have froz_x:=x_7.frozen
 have lt_x:=x_7.lt
 go_wp2_with fail
 refine calls_forget0 (W:=w7) ?_ ?_
 (focus (exact belBy))
 intro X8 hX8
 have sX8:=hX8.size
 refine (HGA.out _ _ _ _ _ (Cells.of_own (own_below g1_7 hX8)) (Cells.of_own (own_below o1_7 hX8))).mono ?_
 rintro e w8 ⟨Z,cz,T,ct,rfl,zz_8,tt_8,hb8⟩
 have s8:=hb8.size
 have hT8:=hX8.trans (hb8.mono sX8)
 have b_8:=b_7.trans (hT8.mono (by omega))
 have xs_8:=cells_below xs_7 hT8 (by omega)
 have g0r_8:=own_below g0r_7 hT8
 have o0r_8:=own_below o0r_7 hT8
 have g1_8:=own_below g1_7 hT8
 have o1_8:=own_below o1_7 hT8
 have t_8:=Blk.past hT8 t_7
 have rg_8:=Blk.past hT8 rg_7
 have x_8:=Blk.past hT8 x_7
 have zz_in:=own_in zz_8
 have tt_in:=own_in tt_8
 clear xs_7 g0r_7 o0r_7 g1_7 o1_7 t_7 rg_7 x_7 b_7 cell_t froz_t lt_t cell_rg froz_rg lt_rg cell_x froz_x lt_x hX8 hT8 hb8
 have cell_t:=t_8.cell
 have froz_t:=t_8.frozen
 have lt_t:=t_8.lt
 have cell_rg:=rg_8.cell
 have froz_rg:=rg_8.frozen
 have lt_rg:=rg_8.lt
 have cell_x:=x_8.cell
 have froz_x:=x_8.frozen
 have lt_x:=x_8.lt
 go_upto_region 6 with fail
 refine wp_forget1 (w0:=w8) (B:=w8.heap.size) (b0:=w8.heap.size) (t0:=76) (c0:=#[.int .i64 d,.slice Z zs.length cz,.slice T ts.length ct]) ?_ ?_ ?_
 (focus exact blkcBy2)
 (focus (exact belBy))
 intro w9 ga_9 hX9
 have sX9:=hX9.size
 have ga_lt:=ga_9.lt
 have b_9:=b_8.trans (hX9.mono (by omega))
 have xs_9:=cells_below xs_8 hX9 (by omega)
 have g0r_9:=own_below g0r_8 hX9
 have o0r_9:=own_below o0r_8 hX9
 have g1_9:=own_below g1_8 hX9
 have o1_9:=own_below o1_8 hX9
 have zz_9:=own_below zz_8 hX9
 have tt_9:=own_below tt_8 hX9
 have t_9:=Blk.past hX9 t_8
 have rg_9:=Blk.past hX9 rg_8
 have x_9:=Blk.past hX9 x_8
 clear xs_8 g0r_8 o0r_8 g1_8 o1_8 zz_8 tt_8 t_8 rg_8 x_8 b_8 cell_t froz_t lt_t cell_rg froz_rg lt_rg cell_x froz_x lt_x hX9
 have cell_t:=t_9.cell
 have froz_t:=t_9.frozen
 have lt_t:=t_9.lt
 have cell_rg:=rg_9.cell
 have froz_rg:=rg_9.frozen
 have lt_rg:=rg_9.lt
 have cell_x:=x_9.cell
 have froz_x:=x_9.frozen
 have lt_x:=x_9.lt
 have cell_ga:=ga_9.cell
 have froz_ga:=ga_9.frozen
 have lt_ga:=ga_9.lt
 go_wp2_with fail
 refine calls_forget0 (W:=w9) ?_ ?_
 (focus (exact belBy))
 intro X10 hX10
 have sX10:=hX10.size
 refine (HP.out _ _ _ _ _ _ _ _ _ (Cells.of_own (own_below g1_9 hX10)) (Cells.of_own (own_below o1_9 hX10)) (Cells.of_own (own_below zz_9 hX10)) (own_weak (own_below tt_9 hX10) (Nat.zero_le _))).mono ?_
 rintro e w10 ⟨T2,ct2,K,ck,D,cd,rfl,t2_10,kk_10,dd_10,hb10⟩
 have s10:=hb10.size
 have hT10:=hX10.trans (hb10.mono sX10)
 have b_10:=b_9.trans (hT10.mono (by omega))
 have xs_10:=cells_below xs_9 hT10 (by omega)
 have g0r_10:=own_below g0r_9 hT10
 have o0r_10:=own_below o0r_9 hT10
 have g1_10:=own_below g1_9 hT10
 have o1_10:=own_below o1_9 hT10
 have zz_10:=own_below zz_9 hT10
 have tt_10:=own_below tt_9 hT10
 have t_10:=Blk.past hT10 t_9
 have rg_10:=Blk.past hT10 rg_9
 have x_10:=Blk.past hT10 x_9
 have ga_10:=Blk.past hT10 ga_9
 have t2_in:=own_in t2_10
 have kk_in:=own_in kk_10
 have dd_in:=own_in dd_10
 clear xs_9 g0r_9 o0r_9 g1_9 o1_9 zz_9 tt_9 t_9 rg_9 x_9 ga_9 b_9 cell_t froz_t lt_t cell_rg froz_rg lt_rg cell_x froz_x lt_x cell_ga froz_ga lt_ga hX10 hT10 hb10
 have cell_t:=t_10.cell
 have froz_t:=t_10.frozen
 have lt_t:=t_10.lt
 have cell_rg:=rg_10.cell
 have froz_rg:=rg_10.frozen
 have lt_rg:=rg_10.lt
 have cell_x:=x_10.cell
 have froz_x:=x_10.frozen
 have lt_x:=x_10.lt
 have cell_ga:=ga_10.cell
 have froz_ga:=ga_10.frozen
 have lt_ga:=ga_10.lt
 go_upto_region 7 with fail
 refine wp_forget1 (w0:=w10) (B:=w10.heap.size) (b0:=w10.heap.size) (t0:=80) (c0:=#[.slice T2 ts.length ct2,.slice K cs.length ck,.slice D ds.length cd]) ?_ ?_ ?_
 (focus exact blkcBy2)
 (focus (exact belBy))
 intro w11 pu_11 hX11
 have sX11:=hX11.size
 have pu_lt:=pu_11.lt
 have b_11:=b_10.trans (hX11.mono (by omega))
 have xs_11:=cells_below xs_10 hX11 (by omega)
 have g0r_11:=own_below g0r_10 hX11
 have o0r_11:=own_below o0r_10 hX11
 have g1_11:=own_below g1_10 hX11
 have o1_11:=own_below o1_10 hX11
 have zz_11:=own_below zz_10 hX11
 have tt_11:=own_below tt_10 hX11
 have t2_11:=own_below t2_10 hX11
 have kk_11:=own_below kk_10 hX11
 have dd_11:=own_below dd_10 hX11
 have t_11:=Blk.past hX11 t_10
 have rg_11:=Blk.past hX11 rg_10
 have x_11:=Blk.past hX11 x_10
 have ga_11:=Blk.past hX11 ga_10
 clear xs_10 g0r_10 o0r_10 g1_10 o1_10 zz_10 tt_10 t2_10 kk_10 dd_10 t_10 rg_10 x_10 ga_10 b_10 cell_t froz_t lt_t cell_rg froz_rg lt_rg cell_x froz_x lt_x cell_ga froz_ga lt_ga hX11
 have cell_t:=t_11.cell
 have froz_t:=t_11.frozen
 have lt_t:=t_11.lt
 have cell_rg:=rg_11.cell
 have froz_rg:=rg_11.frozen
 have lt_rg:=rg_11.lt
 have cell_x:=x_11.cell
 have froz_x:=x_11.frozen
 have lt_x:=x_11.lt
 have cell_ga:=ga_11.cell
 have froz_ga:=ga_11.frozen
 have lt_ga:=ga_11.lt
 have cell_pu:=pu_11.cell
 have froz_pu:=pu_11.frozen
 have lt_pu:=pu_11.lt
 go_wp2_with fail
 go_region_held3 (fun w'=>w'.cell? ⟨w.heap.size,0,none⟩=some (.int .i64 s)∧w'.cell? ⟨w.heap.size,1,none⟩=some (.int .i64 a)∧w'.cell? ⟨w2.heap.size,0,none⟩=some (.slice G1 gs.length cg1)∧w'.cell? ⟨w2.heap.size,1,none⟩=some (.slice O1 os.length co1)∧w'.cell? ⟨w10.heap.size,0,none⟩=some (.slice T2 ts.length ct2)∧w'.cell? ⟨w10.heap.size,1,none⟩=some (.slice K cs.length ck)∧w'.cell? ⟨w10.heap.size,2,none⟩=some (.slice D ds.length cd)) ((refine ⟨(Blk.cell (t:=27) (cs:=#[.int .i64 s,.int .i64 a]) ?qt 0),(Blk.cell ?qt 1),(Blk.cell (t:=40) (cs:=#[.slice G1 gs.length cg1,.slice O1 os.length co1]) ?qx 0),(Blk.cell ?qx 1),(Blk.cell (t:=80) (cs:=#[.slice T2 ts.length ct2,.slice K cs.length ck,.slice D ds.length cd]) ?qpu 0),(Blk.cell ?qpu 1),(Blk.cell ?qpu 2)⟩; (case qt=>(exact blkBy)); (case qx=>(exact blkBy)); (case qpu=>(exact blkBy)))) (first | (go_at_call 48; refine calls_forget0 (W:=w11) ?_ ?_; (focus (exact belBy)); intro X12 hX12; have sX12:=hX12.size; refine (HIB.out _ (b_11.trans (hX12.mono (by omega)))).mono ?_; rintro e w12 ⟨Ab,cb,rfl,bt_12,hb12⟩; have s12:=hb12.size; have hT12:=hX12.trans (hb12.mono sX12); have b_12:=b_11.trans (hT12.mono (by omega)); have xs_12:=cells_below xs_11 hT12 (by omega); have g0r_12:=own_below g0r_11 hT12; have o0r_12:=own_below o0r_11 hT12; have g1_12:=own_below g1_11 hT12; have o1_12:=own_below o1_11 hT12; have zz_12:=own_below zz_11 hT12; have tt_12:=own_below tt_11 hT12; have t2_12:=own_below t2_11 hT12; have kk_12:=own_below kk_11 hT12; have dd_12:=own_below dd_11 hT12; have t_12:=Blk.past hT12 t_11; have rg_12:=Blk.past hT12 rg_11; have x_12:=Blk.past hT12 x_11; have ga_12:=Blk.past hT12 ga_11; have pu_12:=Blk.past hT12 pu_11; have bt_in:=own_in bt_12; clear xs_11 g0r_11 o0r_11 g1_11 o1_11 zz_11 tt_11 t2_11 kk_11 dd_11 t_11 rg_11 x_11 ga_11 pu_11 b_11 cell_t froz_t lt_t cell_rg froz_rg lt_rg cell_x froz_x lt_x cell_ga froz_ga lt_ga cell_pu froz_pu lt_pu hX12 hT12 hb12; have cell_t:=t_12.cell; have froz_t:=t_12.frozen; have lt_t:=t_12.lt; have cell_rg:=rg_12.cell; have froz_rg:=rg_12.frozen; have lt_rg:=rg_12.lt; have cell_x:=x_12.cell; have froz_x:=x_12.frozen; have lt_x:=x_12.lt; have cell_ga:=ga_12.cell; have froz_ga:=ga_12.frozen; have lt_ga:=ga_12.lt; have cell_pu:=pu_12.cell; have froz_pu:=pu_12.frozen; have lt_pu:=pu_12.lt) | (go_at_call 94; refine calls_forget0 (W:=w12) ?_ ?_; (focus (exact belBy)); intro X13 hX13; have sX13:=hX13.size; refine (HIL.out _ _ _ (Cells.of_own (own_below bt_12 hX13))).mono ?_; rintro e w13 ⟨Al,cl,rfl,lb_13,hb13⟩; have s13:=hb13.size; have hT13:=hX13.trans (hb13.mono sX13); have b_13:=b_12.trans (hT13.mono (by omega)); have xs_13:=cells_below xs_12 hT13 (by omega); have g0r_13:=own_below g0r_12 hT13; have o0r_13:=own_below o0r_12 hT13; have g1_13:=own_below g1_12 hT13; have o1_13:=own_below o1_12 hT13; have zz_13:=own_below zz_12 hT13; have tt_13:=own_below tt_12 hT13; have t2_13:=own_below t2_12 hT13; have kk_13:=own_below kk_12 hT13; have dd_13:=own_below dd_12 hT13; have bt_13:=own_below bt_12 hT13; have t_13:=Blk.past hT13 t_12; have rg_13:=Blk.past hT13 rg_12; have x_13:=Blk.past hT13 x_12; have ga_13:=Blk.past hT13 ga_12; have pu_13:=Blk.past hT13 pu_12; have lb_in:=own_in lb_13; clear xs_12 g0r_12 o0r_12 g1_12 o1_12 zz_12 tt_12 t2_12 kk_12 dd_12 bt_12 t_12 rg_12 x_12 ga_12 pu_12 b_12 cell_t froz_t lt_t cell_rg froz_rg lt_rg cell_x froz_x lt_x cell_ga froz_ga lt_ga cell_pu froz_pu lt_pu hX13 hT13 hb13; have cell_t:=t_13.cell; have froz_t:=t_13.frozen; have lt_t:=t_13.lt; have cell_rg:=rg_13.cell; have froz_rg:=rg_13.frozen; have lt_rg:=rg_13.lt; have cell_x:=x_13.cell; have froz_x:=x_13.frozen; have lt_x:=x_13.lt; have cell_ga:=ga_13.cell; have froz_ga:=ga_13.frozen; have lt_ga:=ga_13.lt; have cell_pu:=pu_13.cell; have froz_pu:=pu_13.frozen; have lt_pu:=pu_13.lt) | (go_at_call 52; refine calls_forget0 (W:=w13) ?_ ?_; (focus (exact belBy)); intro X14 hX14; have sX14:=hX14.size; refine (HE.out _ _ _ _ _ _ _ _ _ _ _ _ _ (Cells.of_own (own_below g1_13 hX14)) (Cells.of_own (own_below o1_13 hX14)) (Cells.of_own (own_below t2_13 hX14)) (Cells.of_own (own_below kk_13 hX14)) (Cells.of_own (own_below dd_13 hX14)) (Cells.of_own (own_below lb_13 hX14))).mono ?_; rintro e w14 ⟨A5,c5,rfl,wr5_14,hb14⟩; have s14:=hb14.size; have hT14:=hX14.trans (hb14.mono sX14); have b_14:=b_13.trans (hT14.mono (by omega)); have xs_14:=cells_below xs_13 hT14 (by omega); have g0r_14:=own_below g0r_13 hT14; have o0r_14:=own_below o0r_13 hT14; have g1_14:=own_below g1_13 hT14; have o1_14:=own_below o1_13 hT14; have zz_14:=own_below zz_13 hT14; have tt_14:=own_below tt_13 hT14; have t2_14:=own_below t2_13 hT14; have kk_14:=own_below kk_13 hT14; have dd_14:=own_below dd_13 hT14; have bt_14:=own_below bt_13 hT14; have lb_14:=own_below lb_13 hT14; have t_14:=Blk.past hT14 t_13; have rg_14:=Blk.past hT14 rg_13; have x_14:=Blk.past hT14 x_13; have ga_14:=Blk.past hT14 ga_13; have pu_14:=Blk.past hT14 pu_13; have wr5_in:=own_in wr5_14; clear xs_13 g0r_13 o0r_13 g1_13 o1_13 zz_13 tt_13 t2_13 kk_13 dd_13 bt_13 lb_13 t_13 rg_13 x_13 ga_13 pu_13 b_13 cell_t froz_t lt_t cell_rg froz_rg lt_rg cell_x froz_x lt_x cell_ga froz_ga lt_ga cell_pu froz_pu lt_pu hX14 hT14 hb14; have cell_t:=t_14.cell; have froz_t:=t_14.frozen; have lt_t:=t_14.lt; have cell_rg:=rg_14.cell; have froz_rg:=rg_14.frozen; have lt_rg:=rg_14.lt; have cell_x:=x_14.cell; have froz_x:=x_14.frozen; have lt_x:=x_14.lt; have cell_ga:=ga_14.cell; have froz_ga:=ga_14.frozen; have lt_ga:=ga_14.lt; have cell_pu:=pu_14.cell; have froz_pu:=pu_14.frozen; have lt_pu:=pu_14.lt))
 have HR:=hid (And.intro (own_weak zz_14 (show w.heap.size + 2≤_ by omega)) (And.intro (own_weak tt_14 (show w.heap.size + 2≤_ by omega)) (And.intro (own_weak wr5_14 (show w.heap.size + 2≤_ by omega)) b_14)))
 clear g0r_14 o0r_14 g1_14 o1_14 zz_14 tt_14 t2_14 kk_14 dd_14 wr5_14 xs_14 lb_14 bt_14 b_14
 go_wp2
 ((try simp only [Exit.inBlock,Exit.then]); apply bodyPost_ret0; focus ((try simp only [results,Tryz.results58]); (try go_simp); (try rfl)))
 have hr:=HR.out
 have hz:=hr.2.2.2.size
 refine ⟨Z,cz,T,ct,A5,c5,rfl,?_,?_,?_,?_⟩
 ·exact own_weak (own_touch' (L:=[w.heap.size + 1]) (w:=w14) (by exact tchBy) hr.1 (fun q hq=>by have:=(own_in hr.1 q hq).1; simp; omega)) (by omega)
 ·exact own_weak (own_touch' (L:=[w.heap.size + 1]) (w:=w14) (by exact tchBy) hr.2.1 (fun q hq=>by have:=(own_in hr.2.1 q hq).1; simp; omega)) (by omega)
 ·exact own_weak (own_touch' (L:=[w.heap.size + 1]) (w:=w14) (by exact tchBy) hr.2.2.1 (fun q hq=>by have:=(own_in hr.2.2.1 q hq).1; simp; omega)) (by omega)
 ·exact Touch.below' (L:=[w.heap.size + 1]) (w:=w14) (by exact tchBy) hr.2.2.2 (fun i hi=>by simp at hi; omega) hz
open Go.RowKit
set_option maxHeartbeats 1600000 in
theorem iValueOf (z d l:Int) (w:World) (hz:labelB z=true) (hd:labelB d=true) :
  Calls Tryz.prog 59 #[.int .i64 z,.int .i64 d,.int .i64 l] w fun e w'=>e=.returned (.int .i64 (valueI z d l))∧Below w.heap.size w w':=by
 have L2:=hid (fun c t w=>iLab2 z d c t w hz hd)
 unfold valueI
 by_cases h1:l=z
 ·have g1:(l == z)=true:=by simpa using h1
  rw [if_pos h1]
  clear h1
  go_enter Tryz.func59,Tryz.ntmps59
  go_wp2_with first | (go_at_call 110; (with_reducible refine (L2.out _ _ _).mono ?_); rintro e w' ⟨rfl,rfl⟩)
  go_ret
  refine ⟨rfl,?_⟩
  exact belBy
 ·have g1:(l == z)=false:=by simpa using h1
  rw [if_neg h1]
  by_cases h2:l=xorI z d
  ·have g2:(l == bits .xor .i64 z d)=true:=beq_iff_eq.2 h2
   rw [if_pos h2]
   clear h1 h2
   go_enter Tryz.func59,Tryz.ntmps59
   go_wp2_with first | (go_at_call 110; (with_reducible refine (L2.out _ _ _).mono ?_); rintro e w' ⟨rfl,rfl⟩)
   go_ret
   refine ⟨rfl,?_⟩
   exact belBy
  ·have g2:(l == bits .xor .i64 z d)=false:=beq_eq_false_iff_ne.2 h2
   rw [if_neg h2]
   clear h1 h2
   go_enter Tryz.func59,Tryz.ntmps59
   go_wp2_with first | (go_at_call 110; (with_reducible refine (L2.out _ _ _).mono ?_); rintro e w' ⟨rfl,rfl⟩)
   go_ret
   refine ⟨rfl,?_⟩
   exact belBy
open Go.RowKit
theorem seenL_len (zs:List Int) (d:Int) (ws:List Int):(seenL zs d ws).length=ws.length:=by simp [seenL]
theorem seenL_get {zs:List Int} {d:Int} {ws:List Int} {j:Nat} {v:Int} (h:ws[j]? = some v):(seenL zs d ws)[j]? = some (valueI (zs.getD j 0) d v):=by
 unfold seenL
 rw [List.getElem?_mapIdx,h]
 rfl
set_option linter.unusedVariables false in
set_option maxRecDepth 100000 in
set_option maxHeartbeats 6400000 in
theorem iViewNo (A:Option Addr) (c:Nat) (L:List St) (Ai:Option Addr) (ci:Nat) (ls:List In1) (s a:Int) (w:World) (hc:Cells w w.heap.size A (ints (flatS L))) (hn:L.length≤1000000000) (hcap:L.length≤c) (hci:Cells w w.heap.size Ai (insW ls)) (hi:InsW w w.heap.size ls) (hm:ls.length + totL ls≤1000000000) (hv:viewB L (insN ls) s a=false) :
  Calls Tryz.prog 58 #[.slice A L.length c,.slice Ai ls.length ci,.agg #[.int .i64 s,.int .i64 a]] w fun e w'=>e=.returned (.tuple #[.agg #[.int .i64 0,.slice none 0 0,.slice none 0 0],.slice none 0 0,.bool false])∧Below w.heap.size w w':=by
 have HC:=hid (fun w hc=>iCompile A c L w hc hn hcap)
 have HIO:=hid (fun w' (h:Below w.heap.size w w')=>iInsOk Ai ci ls w' ((hci.below h).more h.size) ((hi.below h (Nat.le_refl _)).more h.size) (by omega) (fun q hq=>by have:=totL_mem hq; omega))
 have HTK:=hid (fun w=>iTapeOk s a w)
 obtain ⟨g0,hg0⟩:∃ x,(compL L).g=x:=⟨_,rfl⟩
 obtain ⟨o0,ho0⟩:∃ x,(compL L).o=x:=⟨_,rfl⟩
 rw [hg0,ho0] at HC
 unfold viewB at hv
 clear hg0 ho0 hci hi hm hn hcap
 cases hu:unrB L
 ·rw [hu] at HC
  clear hv hu
  clear HIO HTK
  go_enter Tryz.func58,Tryz.ntmps58
  have b_0:=(Below.refl w.heap.size w)
  have s_0:=b_0.size
  have xs_0:=hc
  clear hc
  go_upto_region 1 with fail
  refine wp_forget2 (w0:=w) (B:=w.heap.size) (b0:=w.heap.size) (t0:=27) (c0:=#[.int .i64 s,.int .i64 a]) (b1:=w.heap.size + 1) (t1:=76) (c1:=#[.int .i64 0,.slice none 0 0,.slice none 0 0]) ?_ ?_ ?_ ?_
  (focus exact blkcBy2)
  (focus exact blkcBy2)
  (focus (exact belBy))
  intro w1 t_1 rg_1 hX1
  have sX1:=hX1.size
  have t_lt:=t_1.lt
  have rg_lt:=rg_1.lt
  have b_1:=b_0.trans (hX1.mono (by omega))
  have xs_1:=cells_below xs_0 hX1 (by omega)
  clear xs_0 b_0 hX1
  have cell_t:=t_1.cell
  have froz_t:=t_1.frozen
  have lt_t:=t_1.lt
  have cell_rg:=rg_1.cell
  have froz_rg:=rg_1.frozen
  have lt_rg:=rg_1.lt
  go_wp2_with fail
  refine calls_forget0 (W:=w1) ?_ ?_
  (focus (exact belBy))
  intro X2 hX2
  have sX2:=hX2.size
  refine (HC.out _ ((cells_below xs_1 hX2 (by omega)).more (by omega))).mono ?_
  rintro e w2 ⟨G0,cg0,O0,co0,rfl,g0r_2,o0r_2,hb2⟩
  have s2:=hb2.size
  have hT2:=hX2.trans (hb2.mono sX2)
  have b_2:=b_1.trans (hT2.mono (by omega))
  have xs_2:=cells_below xs_1 hT2 (by omega)
  have t_2:=Blk.past hT2 t_1
  have rg_2:=Blk.past hT2 rg_1
  have g0r_in:=own_in g0r_2
  have o0r_in:=own_in o0r_2
  clear xs_1 t_1 rg_1 b_1 cell_t froz_t lt_t cell_rg froz_rg lt_rg hX2 hT2 hb2
  have cell_t:=t_2.cell
  have froz_t:=t_2.frozen
  have lt_t:=t_2.lt
  have cell_rg:=rg_2.cell
  have froz_rg:=rg_2.frozen
  have lt_rg:=rg_2.lt
  have HB:=hid b_2
  clear b_2 g0r_2 o0r_2
  go_wp2
  ((try simp only [Exit.inBlock,Exit.then]); apply bodyPost_ret0; focus ((try simp only [results,Tryz.results58]); (try go_simp); (try rfl)))
  refine ⟨rfl,?_⟩
  have hb:=HB.out
  have hz:=hb.size
  exact belBy
 cases hib:insB (insN ls)
 ·rw [hu] at HC
  rw [hib] at HIO
  clear hv hu hib
  clear HTK
  go_enter Tryz.func58,Tryz.ntmps58
  have b_0:=(Below.refl w.heap.size w)
  have s_0:=b_0.size
  have xs_0:=hc
  clear hc
  go_upto_region 1 with fail
  refine wp_forget2 (w0:=w) (B:=w.heap.size) (b0:=w.heap.size) (t0:=27) (c0:=#[.int .i64 s,.int .i64 a]) (b1:=w.heap.size + 1) (t1:=76) (c1:=#[.int .i64 0,.slice none 0 0,.slice none 0 0]) ?_ ?_ ?_ ?_
  (focus exact blkcBy2)
  (focus exact blkcBy2)
  (focus (exact belBy))
  intro w1 t_1 rg_1 hX1
  have sX1:=hX1.size
  have t_lt:=t_1.lt
  have rg_lt:=rg_1.lt
  have b_1:=b_0.trans (hX1.mono (by omega))
  have xs_1:=cells_below xs_0 hX1 (by omega)
  clear xs_0 b_0 hX1
  have cell_t:=t_1.cell
  have froz_t:=t_1.frozen
  have lt_t:=t_1.lt
  have cell_rg:=rg_1.cell
  have froz_rg:=rg_1.frozen
  have lt_rg:=rg_1.lt
  go_wp2_with fail
  refine calls_forget0 (W:=w1) ?_ ?_
  (focus (exact belBy))
  intro X2 hX2
  have sX2:=hX2.size
  refine (HC.out _ ((cells_below xs_1 hX2 (by omega)).more (by omega))).mono ?_
  rintro e w2 ⟨G0,cg0,O0,co0,rfl,g0r_2,o0r_2,hb2⟩
  have s2:=hb2.size
  have hT2:=hX2.trans (hb2.mono sX2)
  have b_2:=b_1.trans (hT2.mono (by omega))
  have xs_2:=cells_below xs_1 hT2 (by omega)
  have t_2:=Blk.past hT2 t_1
  have rg_2:=Blk.past hT2 rg_1
  have g0r_in:=own_in g0r_2
  have o0r_in:=own_in o0r_2
  clear xs_1 t_1 rg_1 b_1 cell_t froz_t lt_t cell_rg froz_rg lt_rg hX2 hT2 hb2
  have cell_t:=t_2.cell
  have froz_t:=t_2.frozen
  have lt_t:=t_2.lt
  have cell_rg:=rg_2.cell
  have froz_rg:=rg_2.frozen
  have lt_rg:=rg_2.lt
  go_upto_region 2 with fail
  refine wp_forget0 (w0:=w2) (B:=w2.heap.size) ?_ ?_
  (focus (exact belBy))
  intro w3 hX3
  have sX3:=hX3.size
  have b_3:=b_2.trans (hX3.mono (by omega))
  have xs_3:=cells_below xs_2 hX3 (by omega)
  have g0r_3:=own_below g0r_2 hX3
  have o0r_3:=own_below o0r_2 hX3
  have t_3:=Blk.past hX3 t_2
  have rg_3:=Blk.past hX3 rg_2
  clear xs_2 g0r_2 o0r_2 t_2 rg_2 b_2 cell_t froz_t lt_t cell_rg froz_rg lt_rg hX3
  have cell_t:=t_3.cell
  have froz_t:=t_3.frozen
  have lt_t:=t_3.lt
  have cell_rg:=rg_3.cell
  have froz_rg:=rg_3.frozen
  have lt_rg:=rg_3.lt
  go_wp2_with fail
  refine calls_forget0 (W:=w3) ?_ ?_
  (focus (exact belBy))
  intro X4 hX4
  have sX4:=hX4.size
  refine (HIO.out _ (b_3.trans (hX4.mono (by omega)))).mono ?_
  rintro e w' ⟨rfl,rfl⟩
  have b_4:=b_3.trans (hX4.mono (by omega))
  have xs_4:=cells_below xs_3 hX4 (by omega)
  have g0r_4:=own_below g0r_3 hX4
  have o0r_4:=own_below o0r_3 hX4
  have t_4:=Blk.past hX4 t_3
  have rg_4:=Blk.past hX4 rg_3
  clear xs_3 g0r_3 o0r_3 t_3 rg_3 b_3 cell_t froz_t lt_t cell_rg froz_rg lt_rg hX4
  have cell_t:=t_4.cell
  have froz_t:=t_4.frozen
  have lt_t:=t_4.lt
  have cell_rg:=rg_4.cell
  have froz_rg:=rg_4.frozen
  have lt_rg:=rg_4.lt
  have HB:=hid b_4
  clear b_4 g0r_4 o0r_4
  go_wp2
  ((try simp only [Exit.inBlock,Exit.then]); apply bodyPost_ret0; focus ((try simp only [results,Tryz.results58]); (try go_simp); (try rfl)))
  refine ⟨rfl,?_⟩
  have hb:=HB.out
  have hz:=hb.size
  exact belBy
 cases hta:tapeOkB s a
 ·rw [hu] at HC
  rw [hib] at HIO
  rw [hta] at HTK
  clear hv hu hib hta
  skip
  go_enter Tryz.func58,Tryz.ntmps58
  have b_0:=(Below.refl w.heap.size w)
  have s_0:=b_0.size
  have xs_0:=hc
  clear hc
  go_upto_region 1 with fail
  refine wp_forget2 (w0:=w) (B:=w.heap.size) (b0:=w.heap.size) (t0:=27) (c0:=#[.int .i64 s,.int .i64 a]) (b1:=w.heap.size + 1) (t1:=76) (c1:=#[.int .i64 0,.slice none 0 0,.slice none 0 0]) ?_ ?_ ?_ ?_
  (focus exact blkcBy2)
  (focus exact blkcBy2)
  (focus (exact belBy))
  intro w1 t_1 rg_1 hX1
  have sX1:=hX1.size
  have t_lt:=t_1.lt
  have rg_lt:=rg_1.lt
  have b_1:=b_0.trans (hX1.mono (by omega))
  have xs_1:=cells_below xs_0 hX1 (by omega)
  clear xs_0 b_0 hX1
  have cell_t:=t_1.cell
  have froz_t:=t_1.frozen
  have lt_t:=t_1.lt
  have cell_rg:=rg_1.cell
  have froz_rg:=rg_1.frozen
  have lt_rg:=rg_1.lt
  go_wp2_with fail
  refine calls_forget0 (W:=w1) ?_ ?_
  (focus (exact belBy))
  intro X2 hX2
  have sX2:=hX2.size
  refine (HC.out _ ((cells_below xs_1 hX2 (by omega)).more (by omega))).mono ?_
  rintro e w2 ⟨G0,cg0,O0,co0,rfl,g0r_2,o0r_2,hb2⟩
  have s2:=hb2.size
  have hT2:=hX2.trans (hb2.mono sX2)
  have b_2:=b_1.trans (hT2.mono (by omega))
  have xs_2:=cells_below xs_1 hT2 (by omega)
  have t_2:=Blk.past hT2 t_1
  have rg_2:=Blk.past hT2 rg_1
  have g0r_in:=own_in g0r_2
  have o0r_in:=own_in o0r_2
  clear xs_1 t_1 rg_1 b_1 cell_t froz_t lt_t cell_rg froz_rg lt_rg hX2 hT2 hb2
  have cell_t:=t_2.cell
  have froz_t:=t_2.frozen
  have lt_t:=t_2.lt
  have cell_rg:=rg_2.cell
  have froz_rg:=rg_2.frozen
  have lt_rg:=rg_2.lt
  go_upto_region 2 with fail
  refine wp_forget0 (w0:=w2) (B:=w2.heap.size) ?_ ?_
  (focus (exact belBy))
  intro w3 hX3
  have sX3:=hX3.size
  have b_3:=b_2.trans (hX3.mono (by omega))
  have xs_3:=cells_below xs_2 hX3 (by omega)
  have g0r_3:=own_below g0r_2 hX3
  have o0r_3:=own_below o0r_2 hX3
  have t_3:=Blk.past hX3 t_2
  have rg_3:=Blk.past hX3 rg_2
  clear xs_2 g0r_2 o0r_2 t_2 rg_2 b_2 cell_t froz_t lt_t cell_rg froz_rg lt_rg hX3
  have cell_t:=t_3.cell
  have froz_t:=t_3.frozen
  have lt_t:=t_3.lt
  have cell_rg:=rg_3.cell
  have froz_rg:=rg_3.frozen
  have lt_rg:=rg_3.lt
  go_wp2_with fail
  refine calls_forget0 (W:=w3) ?_ ?_
  (focus (exact belBy))
  intro X4 hX4
  have sX4:=hX4.size
  refine (HIO.out _ (b_3.trans (hX4.mono (by omega)))).mono ?_
  rintro e w' ⟨rfl,rfl⟩
  have b_4:=b_3.trans (hX4.mono (by omega))
  have xs_4:=cells_below xs_3 hX4 (by omega)
  have g0r_4:=own_below g0r_3 hX4
  have o0r_4:=own_below o0r_3 hX4
  have t_4:=Blk.past hX4 t_3
  have rg_4:=Blk.past hX4 rg_3
  clear xs_3 g0r_3 o0r_3 t_3 rg_3 b_3 cell_t froz_t lt_t cell_rg froz_rg lt_rg hX4
  have cell_t:=t_4.cell
  have froz_t:=t_4.frozen
  have lt_t:=t_4.lt
  have cell_rg:=rg_4.cell
  have froz_rg:=rg_4.frozen
  have lt_rg:=rg_4.lt
  go_wp2_with fail
  refine calls_forget0 (W:=X4) ?_ ?_
  (focus (exact belBy))
  intro X5 hX5
  have sX5:=hX5.size
  refine (HTK.out _).mono ?_
  rintro e w5 ⟨rfl,hb5⟩
  have s5:=hb5.size
  have hT5:=hX5.trans (hb5.mono sX5)
  have b_5:=b_4.trans (hT5.mono (by omega))
  have xs_5:=cells_below xs_4 hT5 (by omega)
  have g0r_5:=own_below g0r_4 hT5
  have o0r_5:=own_below o0r_4 hT5
  have t_5:=Blk.past hT5 t_4
  have rg_5:=Blk.past hT5 rg_4
  clear xs_4 g0r_4 o0r_4 t_4 rg_4 b_4 cell_t froz_t lt_t cell_rg froz_rg lt_rg hX5 hT5 hb5
  have cell_t:=t_5.cell
  have froz_t:=t_5.frozen
  have lt_t:=t_5.lt
  have cell_rg:=rg_5.cell
  have froz_rg:=rg_5.frozen
  have lt_rg:=rg_5.lt
  have HB:=hid b_5
  clear b_5 g0r_5 o0r_5
  go_wp2
  ((try simp only [Exit.inBlock,Exit.then]); apply bodyPost_ret0; focus ((try simp only [results,Tryz.results58]); (try go_simp); (try rfl)))
  refine ⟨rfl,?_⟩
  have hb:=HB.out
  have hz:=hb.size
  exact belBy
 ·rw [hu,hib,hta] at hv
  have ha8:decide ((800000:Int) < a)=true:=by simp at hv; simp; omega
  rw [hu] at HC
  rw [hib] at HIO
  rw [hta] at HTK
  clear hv hu hib hta
  skip
  go_enter Tryz.func58,Tryz.ntmps58
  have b_0:=(Below.refl w.heap.size w)
  have s_0:=b_0.size
  have xs_0:=hc
  clear hc
  go_upto_region 1 with fail
  refine wp_forget2 (w0:=w) (B:=w.heap.size) (b0:=w.heap.size) (t0:=27) (c0:=#[.int .i64 s,.int .i64 a]) (b1:=w.heap.size + 1) (t1:=76) (c1:=#[.int .i64 0,.slice none 0 0,.slice none 0 0]) ?_ ?_ ?_ ?_
  (focus exact blkcBy2)
  (focus exact blkcBy2)
  (focus (exact belBy))
  intro w1 t_1 rg_1 hX1
  have sX1:=hX1.size
  have t_lt:=t_1.lt
  have rg_lt:=rg_1.lt
  have b_1:=b_0.trans (hX1.mono (by omega))
  have xs_1:=cells_below xs_0 hX1 (by omega)
  clear xs_0 b_0 hX1
  have cell_t:=t_1.cell
  have froz_t:=t_1.frozen
  have lt_t:=t_1.lt
  have cell_rg:=rg_1.cell
  have froz_rg:=rg_1.frozen
  have lt_rg:=rg_1.lt
  go_wp2_with fail
  refine calls_forget0 (W:=w1) ?_ ?_
  (focus (exact belBy))
  intro X2 hX2
  have sX2:=hX2.size
  refine (HC.out _ ((cells_below xs_1 hX2 (by omega)).more (by omega))).mono ?_
  rintro e w2 ⟨G0,cg0,O0,co0,rfl,g0r_2,o0r_2,hb2⟩
  have s2:=hb2.size
  have hT2:=hX2.trans (hb2.mono sX2)
  have b_2:=b_1.trans (hT2.mono (by omega))
  have xs_2:=cells_below xs_1 hT2 (by omega)
  have t_2:=Blk.past hT2 t_1
  have rg_2:=Blk.past hT2 rg_1
  have g0r_in:=own_in g0r_2
  have o0r_in:=own_in o0r_2
  clear xs_1 t_1 rg_1 b_1 cell_t froz_t lt_t cell_rg froz_rg lt_rg hX2 hT2 hb2
  have cell_t:=t_2.cell
  have froz_t:=t_2.frozen
  have lt_t:=t_2.lt
  have cell_rg:=rg_2.cell
  have froz_rg:=rg_2.frozen
  have lt_rg:=rg_2.lt
  go_upto_region 2 with fail
  refine wp_forget0 (w0:=w2) (B:=w2.heap.size) ?_ ?_
  (focus (exact belBy))
  intro w3 hX3
  have sX3:=hX3.size
  have b_3:=b_2.trans (hX3.mono (by omega))
  have xs_3:=cells_below xs_2 hX3 (by omega)
  have g0r_3:=own_below g0r_2 hX3
  have o0r_3:=own_below o0r_2 hX3
  have t_3:=Blk.past hX3 t_2
  have rg_3:=Blk.past hX3 rg_2
  clear xs_2 g0r_2 o0r_2 t_2 rg_2 b_2 cell_t froz_t lt_t cell_rg froz_rg lt_rg hX3
  have cell_t:=t_3.cell
  have froz_t:=t_3.frozen
  have lt_t:=t_3.lt
  have cell_rg:=rg_3.cell
  have froz_rg:=rg_3.frozen
  have lt_rg:=rg_3.lt
  go_wp2_with fail
  refine calls_forget0 (W:=w3) ?_ ?_
  (focus (exact belBy))
  intro X4 hX4
  have sX4:=hX4.size
  refine (HIO.out _ (b_3.trans (hX4.mono (by omega)))).mono ?_
  rintro e w' ⟨rfl,rfl⟩
  have b_4:=b_3.trans (hX4.mono (by omega))
  have xs_4:=cells_below xs_3 hX4 (by omega)
  have g0r_4:=own_below g0r_3 hX4
  have o0r_4:=own_below o0r_3 hX4
  have t_4:=Blk.past hX4 t_3
  have rg_4:=Blk.past hX4 rg_3
  clear xs_3 g0r_3 o0r_3 t_3 rg_3 b_3 cell_t froz_t lt_t cell_rg froz_rg lt_rg hX4
  have cell_t:=t_4.cell
  have froz_t:=t_4.frozen
  have lt_t:=t_4.lt
  have cell_rg:=rg_4.cell
  have froz_rg:=rg_4.frozen
  have lt_rg:=rg_4.lt
  go_wp2_with fail
  refine calls_forget0 (W:=X4) ?_ ?_
  (focus (exact belBy))
  intro X5 hX5
  have sX5:=hX5.size
  refine (HTK.out _).mono ?_
  rintro e w5 ⟨rfl,hb5⟩
  have s5:=hb5.size
  have hT5:=hX5.trans (hb5.mono sX5)
  have b_5:=b_4.trans (hT5.mono (by omega))
  have xs_5:=cells_below xs_4 hT5 (by omega)
  have g0r_5:=own_below g0r_4 hT5
  have o0r_5:=own_below o0r_4 hT5
  have t_5:=Blk.past hT5 t_4
  have rg_5:=Blk.past hT5 rg_4
  clear xs_4 g0r_4 o0r_4 t_4 rg_4 b_4 cell_t froz_t lt_t cell_rg froz_rg lt_rg hX5 hT5 hb5
  have cell_t:=t_5.cell
  have froz_t:=t_5.frozen
  have lt_t:=t_5.lt
  have cell_rg:=rg_5.cell
  have froz_rg:=rg_5.frozen
  have lt_rg:=rg_5.lt
  have HB:=hid b_5
  clear b_5 g0r_5 o0r_5
  go_wp2
  ((try simp only [Exit.inBlock,Exit.then]); apply bodyPost_ret0; focus ((try simp only [results,Tryz.results58]); (try go_simp); (try rfl)))
  refine ⟨rfl,?_⟩
  have hb:=HB.out
  have hz:=hb.size
  exact belBy
set_option linter.unusedVariables false in
set_option maxRecDepth 100000 in
set_option maxHeartbeats 6400000 in
theorem iWireView (A:Option Addr) (c:Nat) (L:List St) (Ai:Option Addr) (ci:Nat) (ls:List In1) (s a:Int) (w:World) (hc:Cells w w.heap.size A (ints (flatS L))) (hn:L.length≤1000000000) (hcap:L.length≤c) (hci:Cells w w.heap.size Ai (insW ls)) (hi:InsW w w.heap.size ls) (hm:ls.length + totL ls≤1000000000) :
  Calls Tryz.prog 15 #[.slice A L.length c,.slice Ai ls.length ci,.agg #[.int .i64 s,.int .i64 a]] w (GivesPair w (viewL L (insN ls) s a) (viewB L (insN ls) s a)):=by
 cases hv:viewB L (insN ls) s a
 ·have HV:=hid (fun w' (h:Below w.heap.size w w')=>iViewNo A c L Ai ci ls s a w' ((hc.below h).more h.size) hn hcap ((hci.below h).more h.size) ((hi.below h (Nat.le_refl _)).more h.size) hm hv)
  unfold viewL
  rw [hv,if_neg Bool.false_ne_true]
  clear hc hci hi hm hn hcap hv
  go_enter Tryz.func15,Tryz.ntmps15
  have b_0:=(Below.refl w.heap.size w)
  have s_0:=b_0.size
  go_upto_region 1 with fail
  refine wp_forget1 (w0:=w) (B:=w.heap.size) (b0:=w.heap.size) (t0:=27) (c0:=#[.int .i64 s,.int .i64 a]) ?_ ?_ ?_
  (focus exact blkcBy2)
  (focus (exact belBy))
  intro w1 t_1 hX1
  have sX1:=hX1.size
  have t_lt:=t_1.lt
  have b_1:=b_0.trans (hX1.mono (by omega))
  clear b_0 hX1
  have cell_t:=t_1.cell
  have froz_t:=t_1.frozen
  have lt_t:=t_1.lt
  go_wp2_with fail
  refine calls_forget0 (W:=w1) ?_ ?_
  (focus (exact belBy))
  intro X2 hX2
  have sX2:=hX2.size
  refine (HV.out _ (b_1.trans (hX2.mono (by omega)))).mono ?_
  rintro e w2 ⟨rfl,hb2⟩
  have s2:=hb2.size
  have hT2:=hX2.trans (hb2.mono sX2)
  have b_2:=b_1.trans (hT2.mono (by omega))
  have t_2:=Blk.past hT2 t_1
  clear t_1 b_1 cell_t froz_t lt_t hX2 hT2 hb2
  have cell_t:=t_2.cell
  have froz_t:=t_2.frozen
  have lt_t:=t_2.lt
  have HB:=hid b_2
  clear b_2
  go_wp2
  ((try simp only [Exit.inBlock,Exit.then]); apply bodyPost_ret0; focus ((try simp only [results,Tryz.results15]); (try go_simp); (try rfl)))
  refine ⟨none,0,rfl,own_none,?_⟩
  have hb:=HB.out
  have hz:=hb.size
  exact belBy
 ·obtain ⟨hu,hib,h1,h2⟩:=viewB_iff.1 hv
  have HV:=hid (fun w' (h:Below w.heap.size w w')=>iViewYes A c L Ai ci ls s a w' ((hc.below h).more h.size) hn hcap ((hci.below h).more h.size) ((hi.below h (Nat.le_refl _)).more h.size) hm hu hib h1 h2)
  unfold viewL
  rw [hv,if_pos rfl]
  obtain ⟨d,hd⟩:∃ x,deltaI s a=x:=⟨_,rfl⟩
  obtain ⟨zs,hzs⟩:∃ x,garZs s a (cirG L)=x:=⟨_,rfl⟩
  obtain ⟨ts,hts⟩:∃ x,garTs s a (cirG L)=x:=⟨_,rfl⟩
  obtain ⟨ws,hws⟩:∃ x,wireL s a (cirG L) (labsTo s a (inBits (insN ls)) 80)=x:=⟨_,rfl⟩
  rw [hd,hzs,hts,hws] at HV
  rw [hws]
  clear hc hci hi hm hn hcap hv hu hib h1 h2 hd hzs hts hws
  go_enter Tryz.func15,Tryz.ntmps15
  have b_0:=(Below.refl w.heap.size w)
  have s_0:=b_0.size
  go_upto_region 1 with fail
  refine wp_forget1 (w0:=w) (B:=w.heap.size) (b0:=w.heap.size) (t0:=27) (c0:=#[.int .i64 s,.int .i64 a]) ?_ ?_ ?_
  (focus exact blkcBy2)
  (focus (exact belBy))
  intro w1 t_1 hX1
  have sX1:=hX1.size
  have t_lt:=t_1.lt
  have b_1:=b_0.trans (hX1.mono (by omega))
  clear b_0 hX1
  have cell_t:=t_1.cell
  have froz_t:=t_1.frozen
  have lt_t:=t_1.lt
  go_wp2_with fail
  refine calls_forget0 (W:=w1) ?_ ?_
  (focus (exact belBy))
  intro X2 hX2
  have sX2:=hX2.size
  refine (HV.out _ (b_1.trans (hX2.mono (by omega)))).mono ?_
  rintro e w2 ⟨Z,cz,T,ct,V,cv,rfl,zz_2,tt_2,vv_2,hb2⟩
  have s2:=hb2.size
  have hT2:=hX2.trans (hb2.mono sX2)
  have b_2:=b_1.trans (hT2.mono (by omega))
  have t_2:=Blk.past hT2 t_1
  have zz_in:=own_in zz_2
  have tt_in:=own_in tt_2
  have vv_in:=own_in vv_2
  clear t_1 b_1 cell_t froz_t lt_t hX2 hT2 hb2
  have cell_t:=t_2.cell
  have froz_t:=t_2.frozen
  have lt_t:=t_2.lt
  go_upto_region 2 with fail
  refine wp_forget0 (w0:=w2) (B:=w2.heap.size) ?_ ?_
  (focus (exact belBy))
  intro w3 hX3
  have sX3:=hX3.size
  have b_3:=b_2.trans (hX3.mono (by omega))
  have zz_3:=own_below zz_2 hX3
  have tt_3:=own_below tt_2 hX3
  have vv_3:=own_below vv_2 hX3
  have t_3:=Blk.past hX3 t_2
  clear zz_2 tt_2 vv_2 t_2 b_2 cell_t froz_t lt_t hX3
  have cell_t:=t_3.cell
  have froz_t:=t_3.frozen
  have lt_t:=t_3.lt
  have HB:=hid (And.intro (own_weak vv_3 (show w.heap.size≤_ by omega)) b_3)
  clear b_3 zz_3 tt_3 vv_3
  go_wp2
  ((try simp only [Exit.inBlock,Exit.then]); apply bodyPost_ret0; focus ((try simp only [results,Tryz.results15]); (try go_simp); (try rfl)))
  exact ⟨V,cv,rfl,HB.out.1,HB.out.2⟩
set_option linter.unusedVariables false in
set_option maxRecDepth 100000 in
set_option maxHeartbeats 6400000 in
theorem iValuesSeen (A:Option Addr) (c:Nat) (L:List St) (Ai:Option Addr) (ci:Nat) (ls:List In1) (s a:Int) (w:World) (hc:Cells w w.heap.size A (ints (flatS L))) (hn:L.length≤1000000000) (hcap:L.length≤c) (hci:Cells w w.heap.size Ai (insW ls)) (hi:InsW w w.heap.size ls) (hm:ls.length + totL ls≤1000000000) :
  Calls Tryz.prog 16 #[.slice A L.length c,.slice Ai ls.length ci,.agg #[.int .i64 s,.int .i64 a]] w (GivesInts w (seenV L (insN ls) s a)):=by
 cases hv:viewB L (insN ls) s a
 ·have HV:=hid (fun w' (h:Below w.heap.size w w')=>iViewNo A c L Ai ci ls s a w' ((hc.below h).more h.size) hn hcap ((hci.below h).more h.size) ((hi.below h (Nat.le_refl _)).more h.size) hm hv)
  unfold seenV
  rw [hv,if_neg Bool.false_ne_true]
  clear hc hci hi hm hn hcap hv
  go_enter Tryz.func16,Tryz.ntmps16
  have b_0:=(Below.refl w.heap.size w)
  have s_0:=b_0.size
  go_upto_region 1 with fail
  refine wp_forget1 (w0:=w) (B:=w.heap.size) (b0:=w.heap.size) (t0:=27) (c0:=#[.int .i64 s,.int .i64 a]) ?_ ?_ ?_
  (focus exact blkcBy2)
  (focus (exact belBy))
  intro w1 t_1 hX1
  have sX1:=hX1.size
  have t_lt:=t_1.lt
  have b_1:=b_0.trans (hX1.mono (by omega))
  clear b_0 hX1
  have cell_t:=t_1.cell
  have froz_t:=t_1.frozen
  have lt_t:=t_1.lt
  go_wp2_with fail
  refine calls_forget0 (W:=w1) ?_ ?_
  (focus (exact belBy))
  intro X2 hX2
  have sX2:=hX2.size
  refine (HV.out _ (b_1.trans (hX2.mono (by omega)))).mono ?_
  rintro e w2 ⟨rfl,hb2⟩
  have s2:=hb2.size
  have hT2:=hX2.trans (hb2.mono sX2)
  have b_2:=b_1.trans (hT2.mono (by omega))
  have t_2:=Blk.past hT2 t_1
  clear t_1 b_1 cell_t froz_t lt_t hX2 hT2 hb2
  have cell_t:=t_2.cell
  have froz_t:=t_2.frozen
  have lt_t:=t_2.lt
  have HB:=hid b_2
  clear b_2
  go_wp2
  go_ret
  refine ⟨none,0,rfl,own_none,?_⟩
  have hb:=HB.out
  have hz:=hb.size
  exact belBy
 ·obtain ⟨hu,hib,h1,h2⟩:=viewB_iff.1 hv
  have HV:=hid (fun w' (h:Below w.heap.size w w')=>iViewYes A c L Ai ci ls s a w' ((hc.below h).more h.size) hn hcap ((hci.below h).more h.size) ((hi.below h (Nat.le_refl _)).more h.size) hm hu hib h1 h2)
  have hdl:=delta_label s a
  have hzl:=(gar_ok s a (cir_valid hu) (by obtain ⟨m,hom,hm9⟩:=cirO_len hu; omega)).z
  have hzn:(garZs s a (cirG L)).length=(cirG L).length:=gar_zeros _ _ _ _
  have hwn:=wireL_length s a (cirG L) (labsTo s a (inBits (insN ls)) 80)
  have hg6:=(circ_parts (cir_valid hu)).1
  unfold seenV
  rw [hv,if_pos rfl]
  obtain ⟨d,hd⟩:∃ x,deltaI s a=x:=⟨_,rfl⟩
  obtain ⟨zs,hzs⟩:∃ x,garZs s a (cirG L)=x:=⟨_,rfl⟩
  obtain ⟨ts,hts⟩:∃ x,garTs s a (cirG L)=x:=⟨_,rfl⟩
  obtain ⟨ws,hws⟩:∃ x,wireL s a (cirG L) (labsTo s a (inBits (insN ls)) 80)=x:=⟨_,rfl⟩
  rw [hd,hzs,hts,hws] at HV
  rw [hd] at hdl
  rw [hzs] at hzl hzn
  rw [hws] at hwn
  rw [hzs,hd,hws]
  have hzw:ws.length≤zs.length:=by omega
  have hw6:ws.length≤6000:=by omega
  have HSL:=hid (seenL_len zs d ws)
  clear hc hci hi hm hn hcap hv hu hib h1 h2 hd hzs hts hws hzn hwn hg6
  go_enter Tryz.func16,Tryz.ntmps16
  have b_0:=(Below.refl w.heap.size w)
  have s_0:=b_0.size
  go_upto_region 1 with fail
  refine wp_forget1 (w0:=w) (B:=w.heap.size) (b0:=w.heap.size) (t0:=27) (c0:=#[.int .i64 s,.int .i64 a]) ?_ ?_ ?_
  (focus exact blkcBy2)
  (focus (exact belBy))
  intro w1 t_1 hX1
  have sX1:=hX1.size
  have t_lt:=t_1.lt
  have b_1:=b_0.trans (hX1.mono (by omega))
  clear b_0 hX1
  have cell_t:=t_1.cell
  have froz_t:=t_1.frozen
  have lt_t:=t_1.lt
  go_wp2_with fail
  refine calls_forget0 (W:=w1) ?_ ?_
  (focus (exact belBy))
  intro X2 hX2
  have sX2:=hX2.size
  refine (HV.out _ (b_1.trans (hX2.mono (by omega)))).mono ?_
  rintro e w2 ⟨Z,cz,T,ct,V,cv,rfl,zz_2,tt_2,vv_2,hb2⟩
  have s2:=hb2.size
  have hT2:=hX2.trans (hb2.mono sX2)
  have b_2:=b_1.trans (hT2.mono (by omega))
  have t_2:=Blk.past hT2 t_1
  have zz_in:=own_in zz_2
  have tt_in:=own_in tt_2
  have vv_in:=own_in vv_2
  clear t_1 b_1 cell_t froz_t lt_t hX2 hT2 hb2
  have cell_t:=t_2.cell
  have froz_t:=t_2.frozen
  have lt_t:=t_2.lt
  go_upto_region 2 with fail
  refine wp_forget1 (w0:=w2) (B:=w2.heap.size) (b0:=w2.heap.size) (t0:=76) (c0:=#[.int .i64 d,.slice Z zs.length cz,.slice T ts.length ct]) ?_ ?_ ?_
  (focus exact blkcBy2)
  (focus (exact belBy))
  intro w3 ga_3 hX3
  have sX3:=hX3.size
  have ga_lt:=ga_3.lt
  have b_3:=b_2.trans (hX3.mono (by omega))
  have zz_3:=own_below zz_2 hX3
  have tt_3:=own_below tt_2 hX3
  have vv_3:=own_below vv_2 hX3
  have t_3:=Blk.past hX3 t_2
  clear zz_2 tt_2 vv_2 t_2 b_2 cell_t froz_t lt_t hX3
  have cell_t:=t_3.cell
  have froz_t:=t_3.frozen
  have lt_t:=t_3.lt
  have cell_ga:=ga_3.cell
  have froz_ga:=ga_3.frozen
  have lt_ga:=ga_3.lt
  obtain ⟨bg,hbg⟩:∃ n,w2.heap.size=n:=⟨_,rfl⟩
  rw [hbg] at ga_3
  rw [hbg]
  have HX:=hid (And.intro ga_3 (And.intro (Cells.of_own zz_3) (And.intro (Cells.of_own vv_3) b_3)))
  have z3:=b_3.size
  have lt_ga2:=ga_3.lt
  clear zz_3 tt_3 vv_3 b_3 ga_3 cell_ga froz_ga lt_ga cell_t froz_t lt_t hbg
  go_wp2_with fail
  go_loopw [10,11,12,26] (fun o _ _ i wr=>∃ (j k':Nat) (A':Option Addr),j≤ws.length∧i=.int .i64 (j:Int)∧o=.slice A' j k'∧wr.ownsRow w3.heap.size 3 1 (.slice A' j k') j (ints ((seenL zs d ws).take j))∧Below w3.heap.size w3 wr) (fun _ _ _ i _=>ws.length - (intOf i).toNat)
  case atStart=>exact ⟨0,0,some ⟨w3.heap.size,0,none⟩,Nat.zero_le _,rfl,rfl,own_lit (size:=1) #[] 0 rfl (Nat.le_refl _) (Nat.zero_le _) rfl,(Below.refl _ _).alloc (Nat.le_refl _) _⟩
  case round =>
   obtain ⟨j,k',A',hj,rfl,rfl,hown,hbw⟩:=hrel
   have zw:=hbw.size
   by_cases hlt:j < ws.length
   ·obtain ⟨v,hv⟩:∃ v,ws[j]? = some v:=⟨_,List.getElem?_eq_getElem hlt⟩
    have hz:zs[j]? = some (zs.getD j 0):=by rw [List.getD_eq_getElem?_getD,List.getElem?_eq_getElem (by omega)]; rfl
    obtain ⟨z,hzd⟩:∃ z,zs.getD j 0=z:=⟨_,rfl⟩
    rw [hzd] at hz
    have hlz:=hzl _ (List.mem_of_getElem? hz)
    have hst:=take_any (seenL_get (zs:=zs) (d:=d) hv)
    rw [hzd] at hst
    obtain ⟨bz,oz,e1,hBz,hcz⟩:=Cells.at_ (HX.out.2.1.below hbw) (ints_get hz)
    obtain ⟨bv,ov,e2,hBv,hcv⟩:=Cells.at_ (HX.out.2.2.1.below hbw) (ints_get hv)
    subst e1 e2
    have f0:=hcz _ _ (ints_get hz)
    have f1:=hcv _ _ (ints_get hv)
    have hlt':(j:Int) < (ws.length:Int):=by omega
    have hlz':(j:Int) < (zs.length:Int):=by omega
    have j00:(0:Int)≤(j:Int):=by omega
    have hb1:j + 1≤1000000:=by omega
    obtain ⟨xs',hxs⟩:∃ c,(seenL zs d ws).take j=c:=⟨_,rfl⟩
    rw [hxs] at hst hown
    have HST:=hid hst
    have HI:=hid (And.intro hown (And.intro hbw (HX.out.1.past hbw)))
    have HFZ:=hid (And.intro f0 f1)
    clear hst hv hz hzd hcz hcv hxs hown hbw f0
    go_upto_region 8 with fail
    clear f1
    have qg:=fun (X:Later wr) (o:Nat)=>(HI.out.2.2.past X.below).cell o
    have qz:=fun (X:Later wr)=>(X.below.cell (p:=⟨bz,oz + j,none⟩) (by dsimp only; omega)).trans HFZ.out.1
    have qv:=fun (X:Later wr)=>(X.below.cell (p:=⟨bv,ov + j,none⟩) (by dsimp only; omega)).trans HFZ.out.2
    refine wp_grow_tails (W:=wr) (spec:=specAt [(9,.con (.int .i64 (valueI z d v))),(10,.any (RowOf wr.heap.size 3 1 1 [.int .i64 (valueI z d v)]))]) 11 (by kernel_rfl) (by kernel_rfl) (Onward.mk' ((Below.refl _ _).drew)) (specAt_stab ?_) ?_
    ·intro p hp F hF
     simp only [List.mem_cons,List.not_mem_nil,or_false] at hp
     rcases hp with rfl | rfl
     all_goals first | (cases hF; done) | (injection hF with hF; subst hF; exact RowOf.stable)
    refine gList_quietK 9 ⟨rfl,rfl,rfl,rfl,rfl,rfl,rfl,rfl,rfl,rfl,rfl,rfl,rfl,rfl,rfl,rfl,rfl,rfl,trivial⟩ (by decide) ?_
    delta Onward
    dsimp only [List.take,List.drop]
    repeat (go_big_quiet_step (fail))
    refine wpQuiet_nil ?_
    refine gList_con (.int .i64 (valueI z d v)) rfl rfl (fun w' hC _=>?_) ?_
    ·obtain ⟨⟨w',hb⟩,rfl⟩:=hC
     exact grow_con (by simp [go_sem]) (iValueOf z d v _ hlz hdl)
    simp only [Act.put,List.setIfInBounds_toArray,List.set_cons_succ,List.set_cons_zero]
    refine gList_any (RowOf wr.heap.size 3 1 1 [.int .i64 (valueI z d v)]) rfl rfl (fun w' hC hd=>?_) (fun vr=>?_)
    ·obtain ⟨⟨w',hb⟩,rfl⟩:=hC
     exact grow_lit1i rfl rfl (fun w=>litInt _ w) hb.size
    unfold gList
    intro w' hW hfs
    have hlast:RowOf wr.heap.size 3 1 1 [.int .i64 (valueI z d v)] vr w':=hfs 10
    obtain ⟨⟨w32,hb⟩,rfl⟩:=hW
    obtain ⟨A7,c7,rfl,h7⟩:=hlast
    obtain ⟨g7,rfl,_,_,_⟩:=own_at h7 (by omega)
    have s32:=hb.size
    have H7:=hid (row_cells (show Row _ g7 _ 1 1 c7 _ from own_weak h7 (Nat.zero_le _)))
    have hko:=own_below HI.out.1 hb
    have HB5:=hid (HI.out.2.1.trans (hb.mono zw))
    have hw5:=HB5.out.size
    clear qg qz qv hfs hb h7 HFZ
    dsimp only [List.drop]
    simp only [Act.put,List.setIfInBounds_toArray,List.set_cons_succ,List.set_cons_zero]
    go_wp2_with (at_builtin; refine app_ints rfl _ _ rfl (base:=w3.heap.size) (L:=xs') (v:=Value.slice A' j k') rfl hko (by omega) [valueI z d v] rfl rfl H7.out hb1 ?_)
    intro A1 k1 w8 ho8 hg8 hl8
    have hlo:=own_in hko
    have HF:=hid (And.intro ho8 (gr_below hg8 HB5.out (by omega) (fun p hp=>(hlo p hp).1)))
    clear ho8 hg8 hl8 hko hlo
    go_wp2
    go_roundw
    case rel=>exact ⟨j + 1,k1,A1,by omega,by go_num,rfl,by rw [HST.out]; exact HF.out.1,HF.out.2⟩
    case measure=>simp [intOf]; omega
   ·obtain rfl:j=ws.length:=by omega
    rw [←HSL.out,List.take_length] at hown
    have HF:=hid (And.intro hown (HX.out.2.2.2.trans (hbw.mono z3)))
    clear hown hbw
    go_wp2
    go_ret
    rw [HSL.out] at HF
    have e:=HSL.out
    exact ⟨A',k',by rw [e]; rfl,by rw [e]; exact own_weak HF.out.1 (by omega),HF.out.2⟩
end Go.Proofs.YtihbaieiempjeaaGreat
