/- The law that ValuesSeen of the program returns what the reference's returns, for all arguments. No conditions. -/
import Derived.Test.YtihbaieiempjeaaGreatB0
import Derived.Test.YtihbaieiempjeaaGreatB27
import Derived.Test.YtihbaieiempjeaaGreatB26
import Derived.Test.YtihbaieiempjeaaGreatBHead
set_option linter.unusedVariables false
namespace Go.Proofs.YtihbaieiempjeaaGreat
open Go.RowKit Go.ChangeShapes Go.WideShapes Go.ChangeAt
theorem seenV_len (L:List St) (ins:List (List Int)) (s a:Int):(seenV L ins s a).length≤6000:=by
 unfold seenV
 split
 ·rename_i h
  rw [seenL_len,wireL_length]
  exact (circ_parts (cir_valid (viewB_iff.1 h).1)).1
 ·simp
namespace exactValuesSeen
set_option maxRecDepth 100000 in
set_option maxHeartbeats 6400000 in
theorem walk (A:Option Addr) (c n:Nat) (xs:List Int) (Ai:Option Addr) (ci:Nat) (ls:List In1) (s a:Int) (w:World) (hl:xs.length=n * 6) (hx:Cells w w.heap.size A (ints xs)) (hn:n≤maxLen) (hci:Cells w w.heap.size Ai (insW ls)) (hi:InsW w w.heap.size ls) (hnl:ls.length≤maxLen) (hml:∀ q∈ls,q.2.2.length≤maxLen) :
  Calls Tryz.prog 7 #[.slice A n c,.slice Ai ls.length ci,.agg #[.int .i64 s,.int .i64 a]] w fun e w'=>e=.returned (.bool true)∧Below w.heap.size w w':=by
 unfold maxLen at hn hnl hml
 by_cases h1:n≤1048576
 ·have hd:decide ((1048576:Int) - (n:Int) < 0)=false:=by simp; omega
  have HD:=hid hd
  clear hd
  have SZ:=hid (fun w' (h:Below w.heap.size w w')=>szIntSS_any Ai ci ls ((1048576:Int) - (n:Int)) w' ((hci.below h).more h.size) (by omega) hml (by omega) (by omega))
  by_cases h2:ls.length + totL ls≤1048576 - n
  ·have hd2:decide ((1048576:Int) - (n:Int) - ((ls.length + totL ls:Nat):Int) < 0)=false:=by simp; omega
   rw [hd2,pick_no] at SZ
   have hd3:decide ((1048576:Int) - (n:Int) - ((ls.length + totL ls:Nat):Int) < 0)=false:=hd2
   obtain ⟨r,hr⟩:∃ r,(1048576:Int) - (n:Int) - ((ls.length + totL ls:Nat):Int)=r:=⟨_,rfl⟩
   rw [hr] at SZ hd3
   have hr0:0≤r:=by omega
   obtain ⟨L,hL,hf⟩:=flat_of n xs hl
   have hsz:ls.length + totL ls≤1048576:=by omega
   have TSS:=hid (fun w' (h:Below w.heap.size w w')=>toIntSS_any Ai ci ls w' ((hci.below h).more h.size) ((hi.below h (Nat.le_refl _)).more h.size) hsz)
   have CS:=hid (fun A Ai (ds:List In1) (hds:insN ds=insN ls) w (hc:Cells w w.heap.size A (ints xs)) (hci:Cells w w.heap.size Ai (insW ds)) (hi:InsW w w.heap.size ds)=>by
    have hdl:ds.length=ls.length:=by rw [←insN_length,hds,insN_length]
    have q:=sValuesSeen A n L Ai ls.length ds s a w (by rw [hf]; exact hc) (by omega) hci hi (by rw [totL_of hds]; omega)
    rwa [hL,hdl,hds] at q)
   have CI:=hid (fun A Ai (ds:List In1) (hds:insN ds=insN ls) w (hc:Cells w w.heap.size A (ints xs)) (hci:Cells w w.heap.size Ai (insW ds)) (hi:InsW w w.heap.size ds)=>by
    have hdl:ds.length=ls.length:=by rw [←insN_length,hds,insN_length]
    have q:=iValuesSeen A n L Ai ls.length ds s a w (by rw [hf]; exact hc) (by omega) (by omega) hci hi (by rw [totL_of hds]; omega)
    rwa [hL,hdl,hds] at q)
   have EQ:=hid (fun A B c d (ds es:List In1) (hds:insN ds=insN ls) (hes:insN es=insN ls) w (ha:Cells w w.heap.size A (insW ds)) (hb:Cells w w.heap.size B (insW es)) (h1:InsW w w.heap.size ds) (h2:InsW w w.heap.size es)=>by
    have hdl:ds.length=ls.length:=by rw [←insN_length,hds,insN_length]
    have hel:es.length=ls.length:=by rw [←insN_length,hes,insN_length]
    have q:=eqIntSS_same A B c d ds es w ha hb h1 h2 (hes.trans hds.symm) (by rw [totL_of hds]; omega)
    rwa [hdl] at q)
   have MK:=hid (fun lo base A c (ds:List In1) (hds:insN ds=insN ls) (k:Int) w (ho:w.ownsRow lo 30 1 (.slice A ls.length c) ls.length (insW ds)) (hr:InsR w base ds) (ha:InsA ds) (h0:0≤k) (h1:k≤100000000000)=>by
    have hdl:ds.length=ls.length:=by rw [←insN_length,hds,insN_length]
    rw [←hdl] at ho
    have q:=markIntSS_any lo base A c ds k w ho hr ha (by rw [totL_of hds]; omega) h0 h1
    rw [totL_of hds] at q
    rwa [hdl] at q)
   have hR:=seenV_len L (insN ls) s a
   obtain ⟨R,hR2⟩:∃ R,seenV L (insN ls) s a=R:=⟨_,rfl⟩
   rw [hR2] at CS CI
   rw [hR2] at hR
   have TA:=hid (fun A c w hc=>toStmtS_any A c n xs w hl hc h1)
   have EA:=hid (fun A B c d w ha hc=>eqStmtS_same A B c d n xs w hl ha hc (by omega))
   obtain ⟨nl,hnl2⟩:∃ m,ls.length=m:=⟨_,rfl⟩
   obtain ⟨tl,htl⟩:∃ m,totL ls=m:=⟨_,rfl⟩
   have ht0:tl≤1048576:=by omega
   rw [hnl2] at SZ TSS CS CI EQ MK ⊢
   rw [htl] at MK
   clear hL hf hd2 hci hi hnl hml hr h2 hsz hR2 hl hnl2 htl
   go_enter Tryz.func7,Tryz.ntmps7
   have b_0:=(Below.refl w.heap.size w)
   have s_0:=b_0.size
   have x_0:=hx
   clear hx
   go_upto_region 1 with fail
   refine wp_forget1 (w0:=w) (B:=w.heap.size) (b0:=w.heap.size) (t0:=47) (c0:=#[.int .i64 s,.int .i64 a]) ?_ ?_ ?_
   (focus exact blkcBy2)
   (focus (exact belBy))
   intro w1 aT_1 hX1
   have sX1:=hX1.size
   have aT_lt:=aT_1.lt
   have b_1:=b_0.trans (hX1.mono (by omega))
   have x_1:=cells_below x_0 hX1 (by omega)
   clear x_0 b_0 hX1
   have cell_aT:=aT_1.cell
   have froz_aT:=aT_1.frozen
   have lt_aT:=aT_1.lt
   go_wp2_with fail
   refine calls_forget0 (W:=w1) ?_ ?_
   (focus (exact belBy))
   intro X2 hX2
   have sX2:=hX2.size
   refine (szStmtS_any _ _ _ _ _ hn (by omega) (by omega)).mono ?_
   rintro e w' ⟨rfl,rfl⟩
   have b_2:=b_1.trans (hX2.mono (by omega))
   have x_2:=cells_below x_1 hX2 (by omega)
   have aT_2:=Blk.past hX2 aT_1
   clear x_1 aT_1 b_1 cell_aT froz_aT lt_aT hX2
   have cell_aT:=aT_2.cell
   have froz_aT:=aT_2.frozen
   have lt_aT:=aT_2.lt
   rw [HD.out,pick_no]
   go_wp2_with fail
   refine calls_forget0 (W:=X2) ?_ ?_
   (focus (exact belBy))
   intro X3 hX3
   have sX3:=hX3.size
   refine (SZ.out _ (b_2.trans (hX3.mono (by omega)))).mono ?_
   rintro e w' ⟨rfl,rfl⟩
   have b_3:=b_2.trans (hX3.mono (by omega))
   have x_3:=cells_below x_2 hX3 (by omega)
   have aT_3:=Blk.past hX3 aT_2
   clear x_2 aT_2 b_2 cell_aT froz_aT lt_aT hX3
   have cell_aT:=aT_3.cell
   have froz_aT:=aT_3.frozen
   have lt_aT:=aT_3.lt
   go_wp2_with fail
   go_region_held3 (fun w'=>w'.cell? ⟨w.heap.size,0,none⟩=some (.int .i64 s)∧w'.cell? ⟨w.heap.size,1,none⟩=some (.int .i64 a)) ((refine ⟨(Blk.cell (t:=47) (cs:=#[.int .i64 s,.int .i64 a]) ?qaT 0),(Blk.cell ?qaT 1)⟩; (case qaT=>(exact blkBy)))) (first | (go_at_call 24; refine calls_forget0 (W:=X3) ?_ ?_; (focus (exact belBy)); intro X4 hX4; have sX4:=hX4.size; refine (TA.out _ _ _ ((cells_below x_3 hX4 (by omega)).more (by omega))).mono ?_; rintro e w4 ⟨rfl,m_4,hb4⟩; have s4:=hb4.size; have hT4:=hX4.trans (hb4.mono sX4); have b_4:=b_3.trans (hT4.mono (by omega)); have x_4:=cells_below x_3 hT4 (by omega); have aT_4:=Blk.past hT4 aT_3; have m_in:=own_in m_4; clear x_3 aT_3 b_3 cell_aT froz_aT lt_aT hX4 hT4 hb4; have cell_aT:=aT_4.cell; have froz_aT:=aT_4.frozen; have lt_aT:=aT_4.lt) | (go_at_call 25; refine calls_forget0 (W:=w4) ?_ ?_; (focus (exact belBy)); intro X5 hX5; have sX5:=hX5.size; refine (TSS.out _ (b_4.trans (hX5.mono (by omega)))).mono ?_; rintro e w5 ⟨ds0,hs_ds0,rfl,z_5,ds0r_5,ia_ds0,hb5⟩; have s5:=hb5.size; have hT5:=hX5.trans (hb5.mono sX5); have b_5:=b_4.trans (hT5.mono (by omega)); have x_5:=cells_below x_4 hT5 (by omega); have m_5:=own_below m_4 hT5; have aT_5:=Blk.past hT5 aT_4; have z_in:=own_in z_5; have ik_ds0:=insK_in ds0r_5; clear x_4 m_4 aT_4 b_4 cell_aT froz_aT lt_aT hX5 hT5 hb5; have cell_aT:=aT_5.cell; have froz_aT:=aT_5.frozen; have lt_aT:=aT_5.lt) | (go_at_call 26; refine calls_forget0 (W:=w5) ?_ ?_; (focus (exact belBy)); intro X6 hX6; have sX6:=hX6.size; refine (toTape_any _ _ _).mono ?_; rintro e w6 ⟨rfl,hb6⟩; have s6:=hb6.size; have hT6:=hX6.trans (hb6.mono sX6); have b_6:=b_5.trans (hT6.mono (by omega)); have x_6:=cells_below x_5 hT6 (by omega); have m_6:=own_below m_5 hT6; have z_6:=own_below z_5 hT6; have aT_6:=Blk.past hT6 aT_5; have ds0r_6:=InsR.below ds0r_5 hT6; clear x_5 m_5 z_5 aT_5 ds0r_5 b_5 cell_aT froz_aT lt_aT hX6 hT6 hb6; have cell_aT:=aT_6.cell; have froz_aT:=aT_6.frozen; have lt_aT:=aT_6.lt) | (go_at_call 34; refine calls_forget0 (W:=w6) ?_ ?_; (focus (exact belBy)); intro X7 hX7; have sX7:=hX7.size; refine (CS.out _ _ _ hs_ds0 _ (Cells.of_own (own_below m_6 hX7)) (Cells.of_own (own_below z_6 hX7)) (InsR.cells (InsR.below ds0r_6 hX7))).mono ?_; rintro e w7 ⟨Au,cu,rfl,u_7,hb7⟩; have s7:=hb7.size; have hT7:=hX7.trans (hb7.mono sX7); have b_7:=b_6.trans (hT7.mono (by omega)); have x_7:=cells_below x_6 hT7 (by omega); have m_7:=own_below m_6 hT7; have z_7:=own_below z_6 hT7; have aT_7:=Blk.past hT7 aT_6; have ds0r_7:=InsR.below ds0r_6 hT7; have u_in:=own_in u_7; clear x_6 m_6 z_6 aT_6 ds0r_6 b_6 cell_aT froz_aT lt_aT hX7 hT7 hb7; have cell_aT:=aT_7.cell; have froz_aT:=aT_7.frozen; have lt_aT:=aT_7.lt))
   clear m_7
   clear z_7
   clear ds0r_7
   go_wp2_with fail
   refine calls_forget0 (W:=w7) ?_ ?_
   (focus (exact belBy))
   intro X8 hX8
   have sX8:=hX8.size
   refine (TA.out _ _ _ ((cells_below x_7 hX8 (by omega)).more (by omega))).mono ?_
   rintro e w8 ⟨rfl,y_8,hb8⟩
   have s8:=hb8.size
   have hT8:=hX8.trans (hb8.mono sX8)
   have b_8:=b_7.trans (hT8.mono (by omega))
   have x_8:=cells_below x_7 hT8 (by omega)
   have u_8:=own_below u_7 hT8
   have aT_8:=Blk.past hT8 aT_7
   have y_in:=own_in y_8
   clear x_7 u_7 aT_7 b_7 cell_aT froz_aT lt_aT hX8 hT8 hb8
   have cell_aT:=aT_8.cell
   have froz_aT:=aT_8.frozen
   have lt_aT:=aT_8.lt
   go_wp2_with fail
   refine calls_forget0 (W:=w8) ?_ ?_
   (focus (exact belBy))
   intro X9 hX9
   have sX9:=hX9.size
   refine (TSS.out _ (b_8.trans (hX9.mono (by omega)))).mono ?_
   rintro e w9 ⟨ds1,hs_ds1,rfl,f_9,ds1r_9,ia_ds1,hb9⟩
   have s9:=hb9.size
   have hT9:=hX9.trans (hb9.mono sX9)
   have b_9:=b_8.trans (hT9.mono (by omega))
   have x_9:=cells_below x_8 hT9 (by omega)
   have u_9:=own_below u_8 hT9
   have y_9:=own_below y_8 hT9
   have aT_9:=Blk.past hT9 aT_8
   have f_in:=own_in f_9
   have ik_ds1:=insK_in ds1r_9
   clear x_8 u_8 y_8 aT_8 b_8 cell_aT froz_aT lt_aT hX9 hT9 hb9
   have cell_aT:=aT_9.cell
   have froz_aT:=aT_9.frozen
   have lt_aT:=aT_9.lt
   go_wp2_with fail
   refine calls_forget0 (W:=w9) ?_ ?_
   (focus (exact belBy))
   intro X10 hX10
   have sX10:=hX10.size
   refine (toTape_any _ _ _).mono ?_
   rintro e w10 ⟨rfl,hb10⟩
   have s10:=hb10.size
   have hT10:=hX10.trans (hb10.mono sX10)
   have b_10:=b_9.trans (hT10.mono (by omega))
   have x_10:=cells_below x_9 hT10 (by omega)
   have u_10:=own_below u_9 hT10
   have y_10:=own_below y_9 hT10
   have f_10:=own_below f_9 hT10
   have aT_10:=Blk.past hT10 aT_9
   have ds1r_10:=InsR.below ds1r_9 hT10
   clear x_9 u_9 y_9 f_9 aT_9 ds1r_9 b_9 cell_aT froz_aT lt_aT hX10 hT10 hb10
   have cell_aT:=aT_10.cell
   have froz_aT:=aT_10.frozen
   have lt_aT:=aT_10.lt
   go_wp2_with fail
   refine calls_forget0 (W:=w10) ?_ ?_
   (focus (exact belBy))
   intro X11 hX11
   have sX11:=hX11.size
   refine (CI.out _ _ _ hs_ds1 _ (Cells.of_own (own_below y_10 hX11)) (Cells.of_own (own_below f_10 hX11)) (InsR.cells (InsR.below ds1r_10 hX11))).mono ?_
   rintro e w11 ⟨Ag,cg,rfl,g_11,hb11⟩
   have s11:=hb11.size
   have hT11:=hX11.trans (hb11.mono sX11)
   have b_11:=b_10.trans (hT11.mono (by omega))
   have x_11:=cells_below x_10 hT11 (by omega)
   have u_11:=own_below u_10 hT11
   have y_11:=own_below y_10 hT11
   have f_11:=own_below f_10 hT11
   have aT_11:=Blk.past hT11 aT_10
   have ds1r_11:=InsR.below ds1r_10 hT11
   have g_in:=own_in g_11
   clear x_10 u_10 y_10 f_10 aT_10 ds1r_10 b_10 cell_aT froz_aT lt_aT hX11 hT11 hb11
   have cell_aT:=aT_11.cell
   have froz_aT:=aT_11.frozen
   have lt_aT:=aT_11.lt
   go_wp2_with fail
   refine calls_forget0 (W:=w11) ?_ ?_
   (focus (exact belBy))
   intro X12 hX12
   have sX12:=hX12.size
   refine (eqIntS_same _ _ _ _ _ _ (Cells.of_own (own_below g_11 hX12)) (Cells.of_own (own_below u_11 hX12)) (by omega)).mono ?_
   rintro e w12 ⟨rfl,hb12⟩
   have s12:=hb12.size
   have hT12:=hX12.trans (hb12.mono sX12)
   have b_12:=b_11.trans (hT12.mono (by omega))
   have x_12:=cells_below x_11 hT12 (by omega)
   have u_12:=own_below u_11 hT12
   have y_12:=own_below y_11 hT12
   have f_12:=own_below f_11 hT12
   have g_12:=own_below g_11 hT12
   have aT_12:=Blk.past hT12 aT_11
   have ds1r_12:=InsR.below ds1r_11 hT12
   clear x_11 u_11 y_11 f_11 g_11 aT_11 ds1r_11 b_11 cell_aT froz_aT lt_aT hX12 hT12 hb12
   have cell_aT:=aT_12.cell
   have froz_aT:=aT_12.frozen
   have lt_aT:=aT_12.lt
   go_wp2_with fail
   refine calls_forget0 (W:=w12) ?_ ?_
   (focus (exact belBy))
   intro X13 hX13
   have sX13:=hX13.size
   refine (TA.out _ _ _ ((cells_below x_12 hX13 (by omega)).more (by omega))).mono ?_
   rintro e w13 ⟨rfl,v_13,hb13⟩
   have s13:=hb13.size
   have hT13:=hX13.trans (hb13.mono sX13)
   have b_13:=b_12.trans (hT13.mono (by omega))
   have x_13:=cells_below x_12 hT13 (by omega)
   have u_13:=own_below u_12 hT13
   have y_13:=own_below y_12 hT13
   have f_13:=own_below f_12 hT13
   have g_13:=own_below g_12 hT13
   have aT_13:=Blk.past hT13 aT_12
   have ds1r_13:=InsR.below ds1r_12 hT13
   have v_in:=own_in v_13
   clear x_12 u_12 y_12 f_12 g_12 aT_12 ds1r_12 b_12 cell_aT froz_aT lt_aT hX13 hT13 hb13
   have cell_aT:=aT_13.cell
   have froz_aT:=aT_13.frozen
   have lt_aT:=aT_13.lt
   go_wp2_with fail
   refine calls_forget0 (W:=w13) ?_ ?_
   (focus (exact belBy))
   intro X14 hX14
   have sX14:=hX14.size
   refine (EA.out _ _ _ _ _ (Cells.of_own (own_below y_13 hX14)) (Cells.of_own (own_below v_13 hX14))).mono ?_
   rintro e w14 ⟨rfl,hb14⟩
   have s14:=hb14.size
   have hT14:=hX14.trans (hb14.mono sX14)
   have b_14:=b_13.trans (hT14.mono (by omega))
   have x_14:=cells_below x_13 hT14 (by omega)
   have u_14:=own_below u_13 hT14
   have y_14:=own_below y_13 hT14
   have f_14:=own_below f_13 hT14
   have g_14:=own_below g_13 hT14
   have v_14:=own_below v_13 hT14
   have aT_14:=Blk.past hT14 aT_13
   have ds1r_14:=InsR.below ds1r_13 hT14
   clear x_13 u_13 y_13 f_13 g_13 v_13 aT_13 ds1r_13 b_13 cell_aT froz_aT lt_aT hX14 hT14 hb14
   have cell_aT:=aT_14.cell
   have froz_aT:=aT_14.frozen
   have lt_aT:=aT_14.lt
   clear v_14
   go_wp2_with fail
   refine calls_forget0 (W:=w14) ?_ ?_
   (focus (exact belBy))
   intro X15 hX15
   have sX15:=hX15.size
   refine (TSS.out _ (b_14.trans (hX15.mono (by omega)))).mono ?_
   rintro e w15 ⟨ds2,hs_ds2,rfl,t_15,ds2r_15,ia_ds2,hb15⟩
   have s15:=hb15.size
   have hT15:=hX15.trans (hb15.mono sX15)
   have b_15:=b_14.trans (hT15.mono (by omega))
   have x_15:=cells_below x_14 hT15 (by omega)
   have u_15:=own_below u_14 hT15
   have y_15:=own_below y_14 hT15
   have f_15:=own_below f_14 hT15
   have g_15:=own_below g_14 hT15
   have aT_15:=Blk.past hT15 aT_14
   have ds1r_15:=InsR.below ds1r_14 hT15
   have t_in:=own_in t_15
   have ik_ds2:=insK_in ds2r_15
   clear x_14 u_14 y_14 f_14 g_14 aT_14 ds1r_14 b_14 cell_aT froz_aT lt_aT hX15 hT15 hb15
   have cell_aT:=aT_15.cell
   have froz_aT:=aT_15.frozen
   have lt_aT:=aT_15.lt
   go_wp2_with fail
   refine calls_forget0 (W:=w15) ?_ ?_
   (focus (exact belBy))
   intro X16 hX16
   have sX16:=hX16.size
   refine (EQ.out _ _ _ _ _ _ hs_ds1 hs_ds2 _ (Cells.of_own (own_below f_15 hX16)) (Cells.of_own (own_below t_15 hX16)) (InsR.cells (InsR.below ds1r_15 hX16)) (InsR.cells (InsR.below ds2r_15 hX16))).mono ?_
   rintro e w16 ⟨rfl,hb16⟩
   have s16:=hb16.size
   have hT16:=hX16.trans (hb16.mono sX16)
   have b_16:=b_15.trans (hT16.mono (by omega))
   have x_16:=cells_below x_15 hT16 (by omega)
   have u_16:=own_below u_15 hT16
   have y_16:=own_below y_15 hT16
   have f_16:=own_below f_15 hT16
   have g_16:=own_below g_15 hT16
   have t_16:=own_below t_15 hT16
   have aT_16:=Blk.past hT16 aT_15
   have ds1r_16:=InsR.below ds1r_15 hT16
   have ds2r_16:=InsR.below ds2r_15 hT16
   clear x_15 u_15 y_15 f_15 g_15 t_15 aT_15 ds1r_15 ds2r_15 b_15 cell_aT froz_aT lt_aT hX16 hT16 hb16
   have cell_aT:=aT_16.cell
   have froz_aT:=aT_16.frozen
   have lt_aT:=aT_16.lt
   clear t_16
   clear ds2r_16
   go_wp2_with fail
   refine calls_forget0 (W:=w16) ?_ ?_
   (focus (exact belBy))
   intro X17 hX17
   have sX17:=hX17.size
   refine (markStmtS_any _ _ _ _ _ _ _ (own_below y_16 hX17) (by omega) (by omega) (by omega)).mono ?_
   rintro e w17 ⟨rfl,y_17,hg17⟩
   have s17:=hg17.size
   have hT17:=below_grown hX17 hg17
   have b_17:=gr_below hT17 b_16 (by omega) (fun q hq=>by have h1:=y_in q hq; omega)
   have x_17:=gr_cells hT17 x_16 (by omega) (fun q hq=>by have h1:=y_in q hq; omega)
   have u_17:=gr_own hT17 u_16 (fun q p hq hp=>by first | (have h1:=y_in q hq; have h2:=u_in p hp; omega) | exact own_ne y_16 u_16 (by decide) q p hq hp | exact ne_y_u q p hq hp | exact (ne_u_y p q hp hq).symm)
   have f_17:=gr_own hT17 f_16 (fun q p hq hp=>by first | (have h1:=y_in q hq; have h2:=f_in p hp; omega) | exact own_ne y_16 f_16 (by decide) q p hq hp | exact ne_y_f q p hq hp | exact (ne_f_y p q hp hq).symm)
   have g_17:=gr_own hT17 g_16 (fun q p hq hp=>by first | (have h1:=y_in q hq; have h2:=g_in p hp; omega) | exact own_ne y_16 g_16 (by decide) q p hq hp | exact ne_y_g q p hq hp | exact (ne_g_y p q hp hq).symm)
   have aT_17:=gr_blk hT17 aT_16 (fun q hq=>by have h1:=y_in q hq; omega)
   have ds1r_17:=InsR.grown ds1r_16 y_16 (by decide) hT17
   clear x_16 u_16 y_16 f_16 g_16 aT_16 ds1r_16 b_16 cell_aT froz_aT lt_aT hX17 hT17 hg17
   have cell_aT:=aT_17.cell
   have froz_aT:=aT_17.frozen
   have lt_aT:=aT_17.lt
   clear y_17
   go_wp2_with fail
   refine calls_forget0 (W:=w17) ?_ ?_
   (focus (exact belBy))
   intro X18 hX18
   have sX18:=hX18.size
   refine (MK.out _ _ _ _ _ hs_ds1 _ _ (own_below f_17 hX18) (ds1r_17.below hX18) ia_ds1 (by omega) (by omega)).mono ?_
   rintro e w18 ⟨rfl,hY18⟩
   clear f_17
   have s18:=hY18.size
   have b_18:=hY18.below' (b_17.trans (hX18.mono (by omega))) (fun i hi=>by have h1:=ik_ds1 i hi; omega) (by omega)
   have x_18:=cells_touch hY18 (cells_below x_17 hX18 (by omega)) (by omega) (fun i hi=>by have h1:=ik_ds1 i hi; omega)
   have u_18:=own_touch' hY18 (own_below u_17 hX18) (fun q hq hm=>by have h1:=u_in q hq; have h2:=ik_ds1 q hm; omega)
   have g_18:=own_touch' hY18 (own_below g_17 hX18) (fun q hq hm=>by have h1:=g_in q hq; have h2:=ik_ds1 q hm; omega)
   have aT_18:=Blk.touch hY18 (Blk.past hX18 aT_17) (fun hm=>by have h2:=ik_ds1 _ hm; omega)
   clear x_17 u_17 g_17 aT_17 ds1r_17 b_17 cell_aT froz_aT lt_aT hX18 hY18
   have cell_aT:=aT_18.cell
   have froz_aT:=aT_18.frozen
   have lt_aT:=aT_18.lt
   go_wp2_with fail
   refine calls_forget0 (W:=w18) ?_ ?_
   (focus (exact belBy))
   intro X19 hX19
   have sX19:=hX19.size
   refine (eqIntS_same _ _ _ _ _ _ (Cells.of_own (own_below g_18 hX19)) (Cells.of_own (own_below u_18 hX19)) (by omega)).mono ?_
   rintro e w19 ⟨rfl,hb19⟩
   have s19:=hb19.size
   have hT19:=hX19.trans (hb19.mono sX19)
   have b_19:=b_18.trans (hT19.mono (by omega))
   have x_19:=cells_below x_18 hT19 (by omega)
   have u_19:=own_below u_18 hT19
   have g_19:=own_below g_18 hT19
   have aT_19:=Blk.past hT19 aT_18
   clear x_18 u_18 g_18 aT_18 b_18 cell_aT froz_aT lt_aT hX19 hT19 hb19
   have cell_aT:=aT_19.cell
   have froz_aT:=aT_19.frozen
   have lt_aT:=aT_19.lt
   go_wp2_with fail
   refine calls_forget0 (W:=w19) ?_ ?_
   (focus (exact belBy))
   intro X20 hX20
   have sX20:=hX20.size
   refine (markIntS_any _ _ _ _ _ _ _ (own_below g_19 hX20) (by omega) (by omega) (by omega)).mono ?_
   rintro e w20 ⟨rfl,g_20,hg20⟩
   have s20:=hg20.size
   have hT20:=below_grown hX20 hg20
   have b_20:=gr_below hT20 b_19 (by omega) (fun q hq=>by have h1:=g_in q hq; omega)
   have x_20:=gr_cells hT20 x_19 (by omega) (fun q hq=>by have h1:=g_in q hq; omega)
   have u_20:=gr_own hT20 u_19 (fun q p hq hp=>by first | (have h1:=g_in q hq; have h2:=u_in p hp; omega) | exact own_ne g_19 u_19 (by decide) q p hq hp | exact ne_g_u q p hq hp | exact (ne_u_g p q hp hq).symm)
   have aT_20:=gr_blk hT20 aT_19 (fun q hq=>by have h1:=g_in q hq; omega)
   clear x_19 u_19 g_19 aT_19 b_19 cell_aT froz_aT lt_aT hX20 hT20 hg20
   have cell_aT:=aT_20.cell
   have froz_aT:=aT_20.frozen
   have lt_aT:=aT_20.lt
   go_wp2_with fail
   refine calls_forget0 (W:=w20) ?_ ?_
   (focus (exact belBy))
   intro X21 hX21
   have sX21:=hX21.size
   refine (heldIntS_any _ _ _ _ _ (Cells.of_own (own_below g_20 hX21)) (by omega) (by omega) (by omega)).mono ?_
   rintro e w' ⟨rfl,rfl⟩
   have b_21:=b_20.trans (hX21.mono (by omega))
   have x_21:=cells_below x_20 hX21 (by omega)
   have u_21:=own_below u_20 hX21
   have g_21:=own_below g_20 hX21
   have aT_21:=Blk.past hX21 aT_20
   clear x_20 u_20 g_20 aT_20 b_20 cell_aT froz_aT lt_aT hX21
   have cell_aT:=aT_21.cell
   have froz_aT:=aT_21.frozen
   have lt_aT:=aT_21.lt
   go_wp2_with fail
   go_region_held3 (fun w'=>w'.cell? ⟨w.heap.size,0,none⟩=some (.int .i64 s)∧w'.cell? ⟨w.heap.size,1,none⟩=some (.int .i64 a)) ((refine ⟨(Blk.cell (t:=47) (cs:=#[.int .i64 s,.int .i64 a]) ?qaT 0),(Blk.cell ?qaT 1)⟩; (case qaT=>(exact blkBy)))) (first | (go_at_call 24; refine calls_forget0 (W:=X21) ?_ ?_; (focus (exact belBy)); intro X22 hX22; have sX22:=hX22.size; refine (TA.out _ _ _ ((cells_below x_21 hX22 (by omega)).more (by omega))).mono ?_; rintro e w22 ⟨rfl,m2_22,hb22⟩; have s22:=hb22.size; have hT22:=hX22.trans (hb22.mono sX22); have b_22:=b_21.trans (hT22.mono (by omega)); have x_22:=cells_below x_21 hT22 (by omega); have u_22:=own_below u_21 hT22; have g_22:=own_below g_21 hT22; have aT_22:=Blk.past hT22 aT_21; have m2_in:=own_in m2_22; clear x_21 u_21 g_21 aT_21 b_21 cell_aT froz_aT lt_aT hX22 hT22 hb22; have cell_aT:=aT_22.cell; have froz_aT:=aT_22.frozen; have lt_aT:=aT_22.lt) | (go_at_call 25; refine calls_forget0 (W:=w22) ?_ ?_; (focus (exact belBy)); intro X23 hX23; have sX23:=hX23.size; refine (TSS.out _ (b_22.trans (hX23.mono (by omega)))).mono ?_; rintro e w23 ⟨ds3,hs_ds3,rfl,z2_23,ds3r_23,ia_ds3,hb23⟩; have s23:=hb23.size; have hT23:=hX23.trans (hb23.mono sX23); have b_23:=b_22.trans (hT23.mono (by omega)); have x_23:=cells_below x_22 hT23 (by omega); have u_23:=own_below u_22 hT23; have g_23:=own_below g_22 hT23; have m2_23:=own_below m2_22 hT23; have aT_23:=Blk.past hT23 aT_22; have z2_in:=own_in z2_23; have ik_ds3:=insK_in ds3r_23; clear x_22 u_22 g_22 m2_22 aT_22 b_22 cell_aT froz_aT lt_aT hX23 hT23 hb23; have cell_aT:=aT_23.cell; have froz_aT:=aT_23.frozen; have lt_aT:=aT_23.lt) | (go_at_call 26; refine calls_forget0 (W:=w23) ?_ ?_; (focus (exact belBy)); intro X24 hX24; have sX24:=hX24.size; refine (toTape_any _ _ _).mono ?_; rintro e w24 ⟨rfl,hb24⟩; have s24:=hb24.size; have hT24:=hX24.trans (hb24.mono sX24); have b_24:=b_23.trans (hT24.mono (by omega)); have x_24:=cells_below x_23 hT24 (by omega); have u_24:=own_below u_23 hT24; have g_24:=own_below g_23 hT24; have m2_24:=own_below m2_23 hT24; have z2_24:=own_below z2_23 hT24; have aT_24:=Blk.past hT24 aT_23; have ds3r_24:=InsR.below ds3r_23 hT24; clear x_23 u_23 g_23 m2_23 z2_23 aT_23 ds3r_23 b_23 cell_aT froz_aT lt_aT hX24 hT24 hb24; have cell_aT:=aT_24.cell; have froz_aT:=aT_24.frozen; have lt_aT:=aT_24.lt) | (go_at_call 16; refine calls_forget0 (W:=w24) ?_ ?_; (focus (exact belBy)); intro X25 hX25; have sX25:=hX25.size; refine (CI.out _ _ _ hs_ds3 _ (Cells.of_own (own_below m2_24 hX25)) (Cells.of_own (own_below z2_24 hX25)) (InsR.cells (InsR.below ds3r_24 hX25))).mono ?_; rintro e w25 ⟨Ah,ch,rfl,h_25,hb25⟩; have s25:=hb25.size; have hT25:=hX25.trans (hb25.mono sX25); have b_25:=b_24.trans (hT25.mono (by omega)); have x_25:=cells_below x_24 hT25 (by omega); have u_25:=own_below u_24 hT25; have g_25:=own_below g_24 hT25; have m2_25:=own_below m2_24 hT25; have z2_25:=own_below z2_24 hT25; have aT_25:=Blk.past hT25 aT_24; have ds3r_25:=InsR.below ds3r_24 hT25; have h_in:=own_in h_25; clear x_24 u_24 g_24 m2_24 z2_24 aT_24 ds3r_24 b_24 cell_aT froz_aT lt_aT hX25 hT25 hb25; have cell_aT:=aT_25.cell; have froz_aT:=aT_25.frozen; have lt_aT:=aT_25.lt))
   go_wp2_with fail
   refine calls_forget0 (W:=w25) ?_ ?_
   (focus (exact belBy))
   intro X26 hX26
   have sX26:=hX26.size
   refine (eqIntS_same _ _ _ _ _ _ (Cells.of_own (own_below h_25 hX26)) (Cells.of_own (own_below u_25 hX26)) (by omega)).mono ?_
   rintro e w26 ⟨rfl,hb26⟩
   have s26:=hb26.size
   have hT26:=hX26.trans (hb26.mono sX26)
   have b_26:=b_25.trans (hT26.mono (by omega))
   have x_26:=cells_below x_25 hT26 (by omega)
   have u_26:=own_below u_25 hT26
   have g_26:=own_below g_25 hT26
   have m2_26:=own_below m2_25 hT26
   have z2_26:=own_below z2_25 hT26
   have h_26:=own_below h_25 hT26
   have aT_26:=Blk.past hT26 aT_25
   have ds3r_26:=InsR.below ds3r_25 hT26
   clear x_25 u_25 g_25 m2_25 z2_25 h_25 aT_25 ds3r_25 b_25 cell_aT froz_aT lt_aT hX26 hT26 hb26
   have cell_aT:=aT_26.cell
   have froz_aT:=aT_26.frozen
   have lt_aT:=aT_26.lt
   go_wp2_with fail
   refine calls_forget0 (W:=w26) ?_ ?_
   (focus (exact belBy))
   intro X27 hX27
   have sX27:=hX27.size
   refine (heldIntS_any _ _ _ _ _ (Cells.of_own (own_below g_26 hX27)) (by omega) (by omega) (by omega)).mono ?_
   rintro e w' ⟨rfl,rfl⟩
   have b_27:=b_26.trans (hX27.mono (by omega))
   have x_27:=cells_below x_26 hX27 (by omega)
   have u_27:=own_below u_26 hX27
   have g_27:=own_below g_26 hX27
   have m2_27:=own_below m2_26 hX27
   have z2_27:=own_below z2_26 hX27
   have h_27:=own_below h_26 hX27
   have aT_27:=Blk.past hX27 aT_26
   have ds3r_27:=InsR.below ds3r_26 hX27
   clear x_26 u_26 g_26 m2_26 z2_26 h_26 aT_26 ds3r_26 b_26 cell_aT froz_aT lt_aT hX27
   have cell_aT:=aT_27.cell
   have froz_aT:=aT_27.frozen
   have lt_aT:=aT_27.lt
   go_wp2
   go_ret
   refine ⟨rfl,b_27.trans ?_⟩
   exact belBy
  ·have hd2:decide ((1048576:Int) - (n:Int) - ((ls.length + totL ls:Nat):Int) < 0)=true:=by simp; omega
   rw [hd2,pick_yes] at SZ
   obtain ⟨nl,hnl2⟩:∃ m,ls.length=m:=⟨_,rfl⟩
   rw [hnl2] at SZ ⊢
   clear hd2 hci hi hnl hml h2 hnl2 hx hl
   go_enter Tryz.func7,Tryz.ntmps7
   have b_0:=(Below.refl w.heap.size w)
   have s_0:=b_0.size
   go_wp2_with fail
   refine calls_forget0 (W:=w) ?_ ?_
   (focus (exact belBy))
   intro X1 hX1
   have sX1:=hX1.size
   refine (szStmtS_any _ _ _ _ _ hn (by omega) (by omega)).mono ?_
   rintro e w' ⟨rfl,rfl⟩
   have b_1:=b_0.trans (hX1.mono (by omega))
   clear b_0 hX1
   rw [HD.out,pick_no]
   go_wp2_with fail
   refine calls_forget0 (W:=X1) ?_ ?_
   (focus (exact belBy))
   intro X2 hX2
   have sX2:=hX2.size
   refine (SZ.out _ (b_1.trans (hX2.mono (by omega)))).mono ?_
   rintro e w' ⟨rfl,rfl⟩
   have b_2:=b_1.trans (hX2.mono (by omega))
   clear b_1 hX2
   go_wp2
   go_ret
   refine ⟨rfl,b_2.trans ?_⟩
   exact belBy
 ·have hd:decide ((1048576:Int) - (n:Int) < 0)=true:=by simp; omega
  have HD:=hid hd
  clear hd hci hi hnl hml hx hl
  go_enter Tryz.func7,Tryz.ntmps7
  have b_0:=(Below.refl w.heap.size w)
  have s_0:=b_0.size
  go_wp2_with fail
  refine calls_forget0 (W:=w) ?_ ?_
  (focus (exact belBy))
  intro X1 hX1
  have sX1:=hX1.size
  refine (szStmtS_any _ _ _ _ _ hn (by omega) (by omega)).mono ?_
  rintro e w' ⟨rfl,rfl⟩
  have b_1:=b_0.trans (hX1.mono (by omega))
  clear b_0 hX1
  rw [HD.out,pick_yes]
  go_wp2
  go_ret
  refine ⟨rfl,b_1.trans ?_⟩
  exact belBy
set_option maxRecDepth 100000 in
theorem lifted (os:Os) (started:os.Started) (H:Type) (enc:TypeId × Value→H) :
  ReturnsInHanded {} Tryz.checked os 7 .any (Rows.fnExactValuesSeenSpec.pre6 enc Tryz.prog Tryz.f7 Rows.fnExactValuesSeenRow.domain false) (Rows.fnExactValuesSeenSpec.post enc Tryz.prog Tryz.f7 false true false false):=by
 refine returnsInHanded_of_change (C:=Tryz.checked) own started (by kernel_rfl) Tryz.func7
  (ChangeSpec.witness6 (enc:=enc) (C:=Tryz.checked) false ⟨#[],#[.slice none 0 0,.slice none 0 0,.agg #[.int .i64 0,.int .i64 0]],[]⟩ 8 (by kernel_rfl) (by kernel_rfl) (by kernel_rfl) (by kernel_rfl)) ?_
 intro W base args ds gs before hval0 hW _ _
 have hval:∀ (j:Nat) t v,Tryz.f7.params[j]? = some t→args[j]? = some v→Value.okWide Tryz.prog W .any base t v:=hval0
 have hW':=hW
 obtain ⟨p,q,hA0,hV,rfl,_,_⟩:=hW
 have hA:DataW.TrodAll enc Tryz.prog W 0 (fun _=>true) true Tryz.f7.params.toList args.toList ds p:=hA0
 rw [Tryz.params7] at hA hval
 obtain ⟨v0,vs0,d0,ds0,p0,q0,hargs,rfl,rfl,h0,r0⟩:=trodAll_cons hA
 obtain ⟨v1,vs1,d1,ds1,p1,q1,rfl,rfl,rfl,h1,r1⟩:=trodAll_cons r0
 obtain ⟨v2,vs2,d2,ds2,p2,q2,rfl,rfl,rfl,h2,r2⟩:=trodAll_cons r1
 obtain ⟨rfl,rfl,rfl⟩:=trodAll_nil r2
 obtain rfl:args=#[v0,v1,v2]:=by cases args; simp_all
 obtain ⟨rfl,rfl⟩:=trodVars_none hV
 obtain ⟨A0,c0,n0,xs0,rfl,hl0,hc0,hn0⟩:=view_structs (F:=6) Tryz.underlying46 Tryz.underlying102 (by kernel_rfl) (by kernel_rfl) rfl (by kernel_rfl) (by decide) (hval 0 46 v0 rfl rfl) h0 (fun x hx=>hW'.lt x (by simp [hx]))
 obtain ⟨A1,c1,ls1,rfl,hc1,hi1,hn1,hm1⟩:=view_intss Tryz.underlying25 Tryz.underlying30 Tryz.underlying3 (by kernel_rfl) (by kernel_rfl) (hval 1 25 v1 rfl rfl) h1 (fun x hx=>hW'.lt x (by simp [hx]))
 obtain ⟨c2a,c2b,y2a,y2b,_,rfl,hd2,_,hy2a,hy2b⟩:=Joins.open_agg2 Tryz.underlying47 (by kernel_rfl) (by kernel_rfl:Tryz.prog.cellsOf 47=2) (hval 2 47 v2 rfl rfl) h2
 obtain ⟨a2a,e2a,_,wa2a⟩:=DataW.trod_int Tryz.underlying3 hy2a
 obtain rfl:c2a=.int .i64 a2a:=by simpa using e2a
 obtain ⟨a2b,e2b,_,wa2b⟩:=DataW.trod_int Tryz.underlying3 hy2b
 obtain rfl:c2b=.int .i64 a2b:=by simpa using e2b
 refine (walk A0 c0 n0 xs0 A1 c1 ls1 a2a a2b W hl0 hc0 hn0 hc1 hi1 hn1 hm1).mono fun e W' ⟨he,hb⟩=>?_
 subst he
 exact ⟨_,rfl,law_post rfl (by kernel_rfl) (by kernel_rfl) rfl Tryz.underlying4 hW' rfl rfl rfl hb⟩
theorem closed:joinedFacts Tryz.prog 7 Tryz.f7 Rows.fnExactValuesSeenSpec Rows.fnExactValuesSeenRow=true:=by
 unfold joinedFacts
 rw [makeIs,mayIs,finalsIs]
 kernel_rfl
theorem over:Rows.fnExactValuesSeenRow.holds Tryz.pinned (OpenSpec.ofChange Rows.fnExactValuesSeenSpec) :=
 OpenClaim.holds_of_wide 7 Tryz.f7 rfl rfl rfl rfl rfl rfl rfl ⟨rfl,rfl,rfl,rfl,rfl⟩ rfl rfl rfl rfl rfl (by kernel_rfl) Tryz.func7 closed
  (of_decide_eq_true (by kernel_rfl)) (by unfold Func.isWrapper; first | (rw [if_pos (by decide +kernel)]; kernel_rfl) | (rw [if_neg (by decide +kernel)]; exact ⟨rfl,rfl⟩))
  (fun os started H enc _=>lifted os started H enc)
theorem proved:Rows.FnExactValuesSeenSaid:=over
#print axioms proved
end exactValuesSeen
end Go.Proofs.YtihbaieiempjeaaGreat
