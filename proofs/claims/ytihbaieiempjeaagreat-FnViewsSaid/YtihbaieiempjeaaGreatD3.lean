/- Lemmas of the proof: DrawQ, DrawI. -/
import Derived.Test.YtihbaieiempjeaaGreatD0
import Derived.Test.YtihbaieiempjeaaGreatD1
import Derived.Test.YtihbaieiempjeaaGreatD2
namespace Go.Proofs.YtihbaieiempjeaaGreat
open Go.RowKit
def PlainSt (s:St):Prop:=stmtB s=true∧s.o≠12∧s.o≠13
theorem plain1 (d a b c n:Int) (w:World):Calls Tryz.prog 147 #[.agg #[.int .i64 1,.int .i64 d,.int .i64 a,.int .i64 b,.int .i64 c,.int .i64 n]] w fun e w'=>e=.returned (.agg #[.int .i64 1,.int .i64 d,.int .i64 0,.int .i64 0,.int .i64 0,.int .i64 n])∧Below w.heap.size w w':=sPlainX 1 d a b c n w
theorem plain2 (d a b c n:Int) (w:World):Calls Tryz.prog 147 #[.agg #[.int .i64 2,.int .i64 d,.int .i64 a,.int .i64 b,.int .i64 c,.int .i64 n]] w fun e w'=>e=.returned (.agg #[.int .i64 2,.int .i64 d,.int .i64 a,.int .i64 0,.int .i64 0,.int .i64 n])∧Below w.heap.size w w':=sPlainX 2 d a b c n w
theorem plain10 (d a b c n:Int) (w:World):Calls Tryz.prog 147 #[.agg #[.int .i64 10,.int .i64 d,.int .i64 a,.int .i64 b,.int .i64 c,.int .i64 n]] w fun e w'=>e=.returned (.agg #[.int .i64 10,.int .i64 d,.int .i64 a,.int .i64 b,.int .i64 c,.int .i64 0])∧Below w.heap.size w w':=sPlainX 10 d a b c n w
theorem plain11 (d a b c n:Int) (w:World):Calls Tryz.prog 147 #[.agg #[.int .i64 11,.int .i64 d,.int .i64 a,.int .i64 b,.int .i64 c,.int .i64 n]] w fun e w'=>e=.returned (.agg #[.int .i64 11,.int .i64 0,.int .i64 a,.int .i64 0,.int .i64 0,.int .i64 0])∧Below w.heap.size w w':=sPlainX 11 d a b c n w
theorem plain3 (o d a b c n:Int) (w:World) (h:3≤o∧o≤9):Calls Tryz.prog 147 #[.agg #[.int .i64 o,.int .i64 d,.int .i64 a,.int .i64 b,.int .i64 c,.int .i64 n]] w fun e w'=>e=.returned (.agg #[.int .i64 o,.int .i64 d,.int .i64 a,.int .i64 b,.int .i64 0,.int .i64 0])∧Below w.heap.size w w':=by
 have q:=sPlainX o d a b c n w
 have e3:inB o 3 9=true:=inB_iff.2 h
 have e1:(o == 1)=false:=by simp; omega
 have e2:(o == 2)=false:=by simp; omega
 have e4:(o == 10)=false:=by simp; omega
 have e5:(o == 11)=false:=by simp; omega
 have e6:(o == 12)=false:=by simp; omega
 rw [e1,e2,e3,e4,e5,e6] at q
 exact q
theorem pl1 {d n:Int} (hd:0≤d∧d≤7) (hn:0≤n∧n≤15):PlainSt ⟨1,d,0,0,0,n⟩:=by
 refine ⟨?_,by show (1:Int)≠12; decide,by show (1:Int)≠13; decide⟩
 unfold stmtB regB
 rw [if_pos rfl]
 simp only [Bool.and_eq_true,inB_iff,beq_iff_eq,true_and]
 exact ⟨hd,hn⟩
theorem pl2 {d a n:Int} (hd:0≤d∧d≤7) (ha:0≤a∧a≤4) (hn:0≤n∧n≤3):PlainSt ⟨2,d,a,0,0,n⟩:=by
 refine ⟨?_,by show (2:Int)≠12; decide,by show (2:Int)≠13; decide⟩
 unfold stmtB regB
 rw [if_neg (show ¬ (2:Int)=1 by decide),if_pos rfl]
 simp only [Bool.and_eq_true,inB_iff,beq_iff_eq,true_and]
 exact ⟨hd,ha,hn⟩
theorem pl3 {o d a b:Int} (h:3≤o∧o≤9) (hd:0≤d∧d≤7) (ha:0≤a∧a≤7) (hb:0≤b∧b≤7):PlainSt ⟨o,d,a,b,0,0⟩:=by
 refine ⟨?_,by show o≠12; omega,by show o≠13; omega⟩
 unfold stmtB regB
 rw [if_neg (show ¬ o=1 by omega),if_neg (show ¬ o=2 by omega),if_pos (inB_iff.2 h)]
 simp only [Bool.and_eq_true,inB_iff,beq_iff_eq,and_true]
 exact ⟨hd,ha,hb⟩
theorem pl10 {d a b c:Int} (hd:0≤d∧d≤7) (ha:0≤a∧a≤7) (hb:0≤b∧b≤7) (hc:0≤c∧c≤7):PlainSt ⟨10,d,a,b,c,0⟩:=by
 refine ⟨?_,by show (10:Int)≠12; decide,by show (10:Int)≠13; decide⟩
 unfold stmtB regB
 rw [if_neg (show ¬ (10:Int)=1 by decide),if_neg (show ¬ (10:Int)=2 by decide),if_neg (show ¬ inB 10 3 9=true by decide),if_pos rfl]
 simp only [Bool.and_eq_true,inB_iff,beq_iff_eq,and_true]
 exact ⟨hd,ha,hb,hc⟩
theorem pl11 {a:Int} (ha:0≤a∧a≤7):PlainSt ⟨11,0,a,0,0,0⟩:=by
 refine ⟨?_,by show (11:Int)≠12; decide,by show (11:Int)≠13; decide⟩
 unfold stmtB regB
 rw [if_neg (show ¬ (11:Int)=1 by decide),if_neg (show ¬ (11:Int)=2 by decide),if_neg (show ¬ inB 11 3 9=true by decide),if_neg (show ¬ (11:Int)=10 by decide),if_pos rfl]
 simp only [Bool.and_eq_true,inB_iff,beq_iff_eq,true_and,and_true]
 exact ha
set_option maxRecDepth 100000 in
set_option maxHeartbeats 3200000 in
theorem stmt_is (p:Nat) (A:Option Addr) (c:Nat) (bs:List Int) (w:World) (hc:Cur w p A bs.length c) (hb:Bytes w p A bs) :
  Calls Tryz.prog 78 #[.pointer (some ⟨p,0,none⟩)] w fun e w'=>∃ s:St,PlainSt s∧e=.returned (.agg #[.int .i64 s.o,.int .i64 s.d,.int .i64 s.a,.int .i64 s.b,.int .i64 s.c,.int .i64 s.n])∧Cur w' p A bs.length c∧Touch [p] w w':=by
 obtain ⟨i0,h0,hcu,cu_i0,cu_i1⟩:=hc
 have hp:=hcu.lt
 have bc_s:=hid hb.small
 have bc_l:=hid hb.len
 have HBY:=hb.cells
 clear hb
 go_enter Tryz.func78,Tryz.ntmps78
 have b_0:=(Below.refl 0 w)
 have s_0:=b_0.size
 have T_0:=Touch.refl [p] w
 have bc_0:=HBY
 clear HBY
 have cu_0:=hcu
 clear hcu
 have cu_lt:=cu_0.lt
 have cell_cu:=cu_0.cell
 have froz_cu:=cu_0.frozen
 have lt_cu:=cu_0.lt
 go_wp2_with fail
 refine calls_forget1 (W:=w) (b0:=w.heap.size) (t0:=73) (c0:=#[.int .i64 0,.int .i64 0,.int .i64 0,.int .i64 0,.int .i64 0,.int .i64 0]) ?_ ?_ ?_
 (focus exact blkcBy)
 (focus (exact belBy))
 intro X1 r_n hX1
 have sX1:=hX1.size
 have r_lt:=r_n.lt
 refine (below_any 4 _ _ _ _ _ (by omega) (by omega) (show Cur _ _ _ _ _ from ⟨_,_,Blk.past hX1 cu_0,cu_i0,cu_i1⟩) ⟨cells_below bc_0 hX1 (by omega),bc_s.out,bc_l.out⟩).mono ?_
 clear cu_i0 cu_i1
 rintro e w1 ⟨d,rfl,d0,d1,⟨i_1,h_1,cu_1,cu_i0,cu_i1⟩,hY1⟩
 have s1:=hY1.size
 have b_1:=below0_touch hY1 (b_0.trans (hX1.mono (by omega)))
 have T_1:=(T_0.trans (Touch.of_below hX1)).trans hY1
 have bc_1:=cells_touch hY1 (cells_below bc_0 hX1 (by omega)) (by omega) (by first | (simp; done) | (simp; omega))
 have r_1:=Blk.touch hY1 r_n (by first | (simp; done) | (simp; omega))
 clear T_0 bc_0 cu_0 b_0 cell_cu froz_cu lt_cu r_n hX1 hY1
 have cell_cu:=cu_1.cell
 have froz_cu:=cu_1.frozen
 have lt_cu:=cu_1.lt
 have cell_r:=r_1.cell
 have froz_r:=r_1.frozen
 have lt_r:=r_1.lt
 go_wp2_with fail
 refine calls_forget0 (W:=w1) ?_ ?_
 (focus (exact belBy))
 intro X2 hX2
 have sX2:=hX2.size
 refine (below_any 4 _ _ _ _ _ (by omega) (by omega) (show Cur _ _ _ _ _ from ⟨_,_,Blk.past hX2 cu_1,cu_i0,cu_i1⟩) ⟨cells_below bc_1 hX2 (by omega),bc_s.out,bc_l.out⟩).mono ?_
 clear cu_i0 cu_i1
 rintro e w2 ⟨a,rfl,a0,a1,⟨i_2,h_2,cu_2,cu_i0,cu_i1⟩,hY2⟩
 have s2:=hY2.size
 have b_2:=below0_touch hY2 (b_1.trans (hX2.mono (by omega)))
 have T_2:=(T_1.trans (Touch.of_below hX2)).trans hY2
 have bc_2:=cells_touch hY2 (cells_below bc_1 hX2 (by omega)) (by omega) (by first | (simp; done) | (simp; omega))
 have r_2:=Blk.touch hY2 (Blk.past hX2 r_1) (by first | (simp; done) | (simp; omega))
 clear T_1 bc_1 cu_1 r_1 b_1 cell_cu froz_cu lt_cu cell_r froz_r lt_r hX2 hY2
 have cell_cu:=cu_2.cell
 have froz_cu:=cu_2.frozen
 have lt_cu:=cu_2.lt
 have cell_r:=r_2.cell
 have froz_r:=r_2.frozen
 have lt_r:=r_2.lt
 go_wp2_with fail
 refine calls_forget0 (W:=w2) ?_ ?_
 (focus (exact belBy))
 intro X3 hX3
 have sX3:=hX3.size
 refine (below_any 4 _ _ _ _ _ (by omega) (by omega) (show Cur _ _ _ _ _ from ⟨_,_,Blk.past hX3 cu_2,cu_i0,cu_i1⟩) ⟨cells_below bc_2 hX3 (by omega),bc_s.out,bc_l.out⟩).mono ?_
 clear cu_i0 cu_i1
 rintro e w3 ⟨f,rfl,f0,f1,⟨i_3,h_3,cu_3,cu_i0,cu_i1⟩,hY3⟩
 have s3:=hY3.size
 have b_3:=below0_touch hY3 (b_2.trans (hX3.mono (by omega)))
 have T_3:=(T_2.trans (Touch.of_below hX3)).trans hY3
 have bc_3:=cells_touch hY3 (cells_below bc_2 hX3 (by omega)) (by omega) (by first | (simp; done) | (simp; omega))
 have r_3:=Blk.touch hY3 (Blk.past hX3 r_2) (by first | (simp; done) | (simp; omega))
 clear T_2 bc_2 cu_2 r_2 b_2 cell_cu froz_cu lt_cu cell_r froz_r lt_r hX3 hY3
 have cell_cu:=cu_3.cell
 have froz_cu:=cu_3.frozen
 have lt_cu:=cu_3.lt
 have cell_r:=r_3.cell
 have froz_r:=r_3.frozen
 have lt_r:=r_3.lt
 go_wp2_with fail
 refine calls_forget0 (W:=w3) ?_ ?_
 (focus (exact belBy))
 intro X4 hX4
 have sX4:=hX4.size
 refine (below_any 4 _ _ _ _ _ (by omega) (by omega) (show Cur _ _ _ _ _ from ⟨_,_,Blk.past hX4 cu_3,cu_i0,cu_i1⟩) ⟨cells_below bc_3 hX4 (by omega),bc_s.out,bc_l.out⟩).mono ?_
 clear cu_i0 cu_i1
 rintro e w4 ⟨g,rfl,g0,g1,⟨i_4,h_4,cu_4,cu_i0,cu_i1⟩,hY4⟩
 have s4:=hY4.size
 have b_4:=below0_touch hY4 (b_3.trans (hX4.mono (by omega)))
 have T_4:=(T_3.trans (Touch.of_below hX4)).trans hY4
 have bc_4:=cells_touch hY4 (cells_below bc_3 hX4 (by omega)) (by omega) (by first | (simp; done) | (simp; omega))
 have r_4:=Blk.touch hY4 (Blk.past hX4 r_3) (by first | (simp; done) | (simp; omega))
 clear T_3 bc_3 cu_3 r_3 b_3 cell_cu froz_cu lt_cu cell_r froz_r lt_r hX4 hY4
 have cell_cu:=cu_4.cell
 have froz_cu:=cu_4.frozen
 have lt_cu:=cu_4.lt
 have cell_r:=r_4.cell
 have froz_r:=r_4.frozen
 have lt_r:=r_4.lt
 go_upto_region 2 with fail
 go_wp2_with fail
 refine calls_forget1 (W:=w4) (b0:=w4.heap.size) (t0:=73) (c0:=#[.int .i64 0,.int .i64 d,.int .i64 a,.int .i64 f,.int .i64 g,.int .i64 0]) ?_ ?_ ?_
 (focus exact blkcBy)
 (focus (exact belBy))
 intro X5 z_n hX5
 have sX5:=hX5.size
 have z_lt:=z_n.lt
 refine (below_any 12 _ _ _ _ _ (by omega) (by omega) (show Cur _ _ _ _ _ from ⟨_,_,Blk.past hX5 cu_4,cu_i0,cu_i1⟩) ⟨cells_below bc_4 hX5 (by omega),bc_s.out,bc_l.out⟩).mono ?_
 clear cu_i0 cu_i1
 rintro e w5 ⟨q,rfl,q0,q1,⟨i_5,h_5,cu_5,cu_i0,cu_i1⟩,hY5⟩
 have s5:=hY5.size
 have b_5:=below0_touch hY5 (b_4.trans (hX5.mono (by omega)))
 have T_5:=(T_4.trans (Touch.of_below hX5)).trans hY5
 have bc_5:=cells_touch hY5 (cells_below bc_4 hX5 (by omega)) (by omega) (by first | (simp; done) | (simp; omega))
 have r_5:=Blk.touch hY5 (Blk.past hX5 r_4) (by first | (simp; done) | (simp; omega))
 have z_5:=Blk.touch hY5 z_n (by first | (simp; done) | (simp; omega))
 clear T_4 bc_4 cu_4 r_4 b_4 cell_cu froz_cu lt_cu cell_r froz_r lt_r z_n hX5 hY5
 have cell_cu:=cu_5.cell
 have froz_cu:=cu_5.frozen
 have lt_cu:=cu_5.lt
 have cell_r:=r_5.cell
 have froz_r:=r_5.frozen
 have lt_r:=r_5.lt
 have cell_z:=z_5.cell
 have froz_z:=z_5.frozen
 have lt_z:=z_5.lt
 have HD:=hid (show 0≤d∧d≤7 by omega)
 have HA:=hid (show 0≤a∧a≤7 by omega)
 have HF:=hid (show 0≤f∧f≤7 by omega)
 have HG:=hid (show 0≤g∧g≤7 by omega)
 clear d0 d1 a0 a1 f0 f1 g0 g1
 have h7:q=0∨q=1∨q=2∨q=3∨q=4∨q=5∨q=6∨7≤q:=by omega
 clear q0
 rcases h7 with rfl | rfl | rfl | rfl | rfl | rfl | rfl | q0
 ·skip
  have b_20:=(Below.refl 0 w5)
  have s_20:=b_20.size
  have T_20:=T_5
  have bc_20:=bc_5
  clear bc_5
  have cu_20:=cu_5
  clear cu_5
  have cu_lt:=cu_20.lt
  have cell_cu:=cu_20.cell
  have froz_cu:=cu_20.frozen
  have lt_cu:=cu_20.lt
  have r_20:=r_5
  clear r_5
  have r_lt:=r_20.lt
  have cell_r:=r_20.cell
  have froz_r:=r_20.frozen
  have lt_r:=r_20.lt
  have z_20:=z_5
  clear z_5
  have z_lt:=z_20.lt
  have cell_z:=z_20.cell
  have froz_z:=z_20.frozen
  have lt_z:=z_20.lt
  go_wp2_with fail
  refine calls_touch1 (w0:=w5) (L:=[w4.heap.size]) (b0:=w4.heap.size) (t0:=73) (c0:=#[.int .i64 1,.int .i64 d,.int .i64 a,.int .i64 f,.int .i64 g,.int .i64 0]) ?_ ?_ ?_
  (focus exact blkcBy)
  (focus (exact tchBy))
  intro w21 z_21 hX21
  have sX21:=hX21.size
  have b_21:=below0_touch hX21 b_20
  have T_21:=T_20.trans_new hX21 (by first | (simp; done) | (simp; omega))
  have bc_21:=cells_touch hX21 bc_20 (by omega) (by first | (simp; done) | (simp; omega))
  have cu_21:=Blk.touch hX21 cu_20 (by first | (simp; done) | (simp; omega))
  have r_21:=Blk.touch hX21 r_20 (by first | (simp; done) | (simp; omega))
  clear T_20 bc_20 cu_20 r_20 z_20 b_20 cell_cu froz_cu lt_cu cell_r froz_r lt_r cell_z froz_z lt_z hX21
  have cell_cu:=cu_21.cell
  have froz_cu:=cu_21.frozen
  have lt_cu:=cu_21.lt
  have cell_r:=r_21.cell
  have froz_r:=r_21.frozen
  have lt_r:=r_21.lt
  have cell_z:=z_21.cell
  have froz_z:=z_21.frozen
  have lt_z:=z_21.lt
  go_wp2_with fail
  refine calls_forget0 (W:=w21) ?_ ?_
  (focus (exact belBy))
  intro X22 hX22
  have sX22:=hX22.size
  refine (below_any 16 _ _ _ _ _ (by omega) (by omega) (show Cur _ _ _ _ _ from ⟨_,_,Blk.past hX22 cu_21,cu_i0,cu_i1⟩) ⟨cells_below bc_21 hX22 (by omega),bc_s.out,bc_l.out⟩).mono ?_
  clear cu_i0 cu_i1
  rintro e w22 ⟨x,rfl,x0,x1,⟨i_22,h_22,cu_22,cu_i0,cu_i1⟩,hY22⟩
  have s22:=hY22.size
  have b_22:=below0_touch hY22 (b_21.trans (hX22.mono (by omega)))
  have T_22:=(T_21.trans (Touch.of_below hX22)).trans hY22
  have bc_22:=cells_touch hY22 (cells_below bc_21 hX22 (by omega)) (by omega) (by first | (simp; done) | (simp; omega))
  have r_22:=Blk.touch hY22 (Blk.past hX22 r_21) (by first | (simp; done) | (simp; omega))
  have z_22:=Blk.touch hY22 (Blk.past hX22 z_21) (by first | (simp; done) | (simp; omega))
  clear T_21 bc_21 cu_21 r_21 z_21 b_21 cell_cu froz_cu lt_cu cell_r froz_r lt_r cell_z froz_z lt_z hX22 hY22
  have cell_cu:=cu_22.cell
  have froz_cu:=cu_22.frozen
  have lt_cu:=cu_22.lt
  have cell_r:=r_22.cell
  have froz_r:=r_22.frozen
  have lt_r:=r_22.lt
  have cell_z:=z_22.cell
  have froz_z:=z_22.frozen
  have lt_z:=z_22.lt
  have HX:=hid (show 0≤x∧x≤15 by omega)
  go_wp2_with fail
  refine calls_touch1 (w0:=w22) (L:=[w4.heap.size]) (b0:=w4.heap.size) (t0:=73) (c0:=#[.int .i64 1,.int .i64 d,.int .i64 a,.int .i64 f,.int .i64 g,.int .i64 x]) ?_ ?_ ?_
  (focus exact blkcBy)
  (focus (exact tchBy))
  intro w23 z_23 hX23
  have sX23:=hX23.size
  have b_23:=below0_touch hX23 b_22
  have T_23:=T_22.trans_new hX23 (by first | (simp; done) | (simp; omega))
  have bc_23:=cells_touch hX23 bc_22 (by omega) (by first | (simp; done) | (simp; omega))
  have cu_23:=Blk.touch hX23 cu_22 (by first | (simp; done) | (simp; omega))
  have r_23:=Blk.touch hX23 r_22 (by first | (simp; done) | (simp; omega))
  clear T_22 bc_22 cu_22 r_22 z_22 b_22 cell_cu froz_cu lt_cu cell_r froz_r lt_r cell_z froz_z lt_z hX23
  have cell_cu:=cu_23.cell
  have froz_cu:=cu_23.frozen
  have lt_cu:=cu_23.lt
  have cell_r:=r_23.cell
  have froz_r:=r_23.frozen
  have lt_r:=r_23.lt
  have cell_z:=z_23.cell
  have froz_z:=z_23.frozen
  have lt_z:=z_23.lt
  go_wp2_with fail
  refine calls_forget0 (W:=w23) ?_ ?_
  (focus (exact belBy))
  intro X24 hX24
  have sX24:=hX24.size
  refine (plain1 _ _ _ _ _ _).mono ?_
  rintro e w24 ⟨rfl,hb24⟩
  have s24:=hb24.size
  have hT24:=hX24.trans (hb24.mono sX24)
  have b_24:=b_23.trans (hT24.mono (by omega))
  have T_24:=T_23.trans (Touch.of_below hT24)
  have bc_24:=cells_below bc_23 hT24 (by omega)
  have cu_24:=Blk.past hT24 cu_23
  have r_24:=Blk.past hT24 r_23
  have z_24:=Blk.past hT24 z_23
  clear T_23 bc_23 cu_23 r_23 z_23 b_23 cell_cu froz_cu lt_cu cell_r froz_r lt_r cell_z froz_z lt_z hX24 hT24 hb24
  have cell_cu:=cu_24.cell
  have froz_cu:=cu_24.frozen
  have lt_cu:=cu_24.lt
  have cell_r:=r_24.cell
  have froz_r:=r_24.frozen
  have lt_r:=r_24.lt
  have cell_z:=z_24.cell
  have froz_z:=z_24.frozen
  have lt_z:=z_24.lt
  go_wp2_with fail
  ((try simp only [Exit.inBlock,Exit.then]); apply bodyPost_ret0; focus ((try simp only [results,Tryz.results78]); (try go_simp); (try rfl)))
  refine ⟨⟨1,d,0,0,0,x⟩,pl1 HD.out HX.out,rfl,?_,?_⟩
  ·exact Cur.touch (L:=[w.heap.size]) ⟨_,_,cu_24,cu_i0,cu_i1⟩ (by exact tchBy) (by simp; omega)
  ·exact T_24.trans_new (M:=[w.heap.size]) (by exact tchBy) (by simp)
 ·skip
  have b_20:=(Below.refl 0 w5)
  have s_20:=b_20.size
  have T_20:=T_5
  have bc_20:=bc_5
  clear bc_5
  have cu_20:=cu_5
  clear cu_5
  have cu_lt:=cu_20.lt
  have cell_cu:=cu_20.cell
  have froz_cu:=cu_20.frozen
  have lt_cu:=cu_20.lt
  have r_20:=r_5
  clear r_5
  have r_lt:=r_20.lt
  have cell_r:=r_20.cell
  have froz_r:=r_20.frozen
  have lt_r:=r_20.lt
  have z_20:=z_5
  clear z_5
  have z_lt:=z_20.lt
  have cell_z:=z_20.cell
  have froz_z:=z_20.frozen
  have lt_z:=z_20.lt
  go_wp2_with fail
  refine calls_touch1 (w0:=w5) (L:=[w4.heap.size]) (b0:=w4.heap.size) (t0:=73) (c0:=#[.int .i64 2,.int .i64 d,.int .i64 a,.int .i64 f,.int .i64 g,.int .i64 0]) ?_ ?_ ?_
  (focus exact blkcBy)
  (focus (exact tchBy))
  intro w21 z_21 hX21
  have sX21:=hX21.size
  have b_21:=below0_touch hX21 b_20
  have T_21:=T_20.trans_new hX21 (by first | (simp; done) | (simp; omega))
  have bc_21:=cells_touch hX21 bc_20 (by omega) (by first | (simp; done) | (simp; omega))
  have cu_21:=Blk.touch hX21 cu_20 (by first | (simp; done) | (simp; omega))
  have r_21:=Blk.touch hX21 r_20 (by first | (simp; done) | (simp; omega))
  clear T_20 bc_20 cu_20 r_20 z_20 b_20 cell_cu froz_cu lt_cu cell_r froz_r lt_r cell_z froz_z lt_z hX21
  have cell_cu:=cu_21.cell
  have froz_cu:=cu_21.frozen
  have lt_cu:=cu_21.lt
  have cell_r:=r_21.cell
  have froz_r:=r_21.frozen
  have lt_r:=r_21.lt
  have cell_z:=z_21.cell
  have froz_z:=z_21.frozen
  have lt_z:=z_21.lt
  go_wp2_with fail
  refine calls_forget0 (W:=w21) ?_ ?_
  (focus (exact belBy))
  intro X22 hX22
  have sX22:=hX22.size
  refine (below_any 3 _ _ _ _ _ (by omega) (by omega) (show Cur _ _ _ _ _ from ⟨_,_,Blk.past hX22 cu_21,cu_i0,cu_i1⟩) ⟨cells_below bc_21 hX22 (by omega),bc_s.out,bc_l.out⟩).mono ?_
  clear cu_i0 cu_i1
  rintro e w22 ⟨x,rfl,x0,x1,⟨i_22,h_22,cu_22,cu_i0,cu_i1⟩,hY22⟩
  have s22:=hY22.size
  have b_22:=below0_touch hY22 (b_21.trans (hX22.mono (by omega)))
  have T_22:=(T_21.trans (Touch.of_below hX22)).trans hY22
  have bc_22:=cells_touch hY22 (cells_below bc_21 hX22 (by omega)) (by omega) (by first | (simp; done) | (simp; omega))
  have r_22:=Blk.touch hY22 (Blk.past hX22 r_21) (by first | (simp; done) | (simp; omega))
  have z_22:=Blk.touch hY22 (Blk.past hX22 z_21) (by first | (simp; done) | (simp; omega))
  clear T_21 bc_21 cu_21 r_21 z_21 b_21 cell_cu froz_cu lt_cu cell_r froz_r lt_r cell_z froz_z lt_z hX22 hY22
  have cell_cu:=cu_22.cell
  have froz_cu:=cu_22.frozen
  have lt_cu:=cu_22.lt
  have cell_r:=r_22.cell
  have froz_r:=r_22.frozen
  have lt_r:=r_22.lt
  have cell_z:=z_22.cell
  have froz_z:=z_22.frozen
  have lt_z:=z_22.lt
  have HX:=hid (show 0≤x∧x≤4 by omega)
  go_wp2_with fail
  refine calls_touch1 (w0:=w22) (L:=[w4.heap.size]) (b0:=w4.heap.size) (t0:=73) (c0:=#[.int .i64 2,.int .i64 d,.int .i64 x,.int .i64 f,.int .i64 g,.int .i64 0]) ?_ ?_ ?_
  (focus exact blkcBy)
  (focus (exact tchBy))
  intro w23 z_23 hX23
  have sX23:=hX23.size
  have b_23:=below0_touch hX23 b_22
  have T_23:=T_22.trans_new hX23 (by first | (simp; done) | (simp; omega))
  have bc_23:=cells_touch hX23 bc_22 (by omega) (by first | (simp; done) | (simp; omega))
  have cu_23:=Blk.touch hX23 cu_22 (by first | (simp; done) | (simp; omega))
  have r_23:=Blk.touch hX23 r_22 (by first | (simp; done) | (simp; omega))
  clear T_22 bc_22 cu_22 r_22 z_22 b_22 cell_cu froz_cu lt_cu cell_r froz_r lt_r cell_z froz_z lt_z hX23
  have cell_cu:=cu_23.cell
  have froz_cu:=cu_23.frozen
  have lt_cu:=cu_23.lt
  have cell_r:=r_23.cell
  have froz_r:=r_23.frozen
  have lt_r:=r_23.lt
  have cell_z:=z_23.cell
  have froz_z:=z_23.frozen
  have lt_z:=z_23.lt
  go_wp2_with fail
  refine calls_forget0 (W:=w23) ?_ ?_
  (focus (exact belBy))
  intro X24 hX24
  have sX24:=hX24.size
  refine (below_any 2 _ _ _ _ _ (by omega) (by omega) (show Cur _ _ _ _ _ from ⟨_,_,Blk.past hX24 cu_23,cu_i0,cu_i1⟩) ⟨cells_below bc_23 hX24 (by omega),bc_s.out,bc_l.out⟩).mono ?_
  clear cu_i0 cu_i1
  rintro e w24 ⟨y,rfl,y0,y1,⟨i_24,h_24,cu_24,cu_i0,cu_i1⟩,hY24⟩
  have s24:=hY24.size
  have b_24:=below0_touch hY24 (b_23.trans (hX24.mono (by omega)))
  have T_24:=(T_23.trans (Touch.of_below hX24)).trans hY24
  have bc_24:=cells_touch hY24 (cells_below bc_23 hX24 (by omega)) (by omega) (by first | (simp; done) | (simp; omega))
  have r_24:=Blk.touch hY24 (Blk.past hX24 r_23) (by first | (simp; done) | (simp; omega))
  have z_24:=Blk.touch hY24 (Blk.past hX24 z_23) (by first | (simp; done) | (simp; omega))
  clear T_23 bc_23 cu_23 r_23 z_23 b_23 cell_cu froz_cu lt_cu cell_r froz_r lt_r cell_z froz_z lt_z hX24 hY24
  have cell_cu:=cu_24.cell
  have froz_cu:=cu_24.frozen
  have lt_cu:=cu_24.lt
  have cell_r:=r_24.cell
  have froz_r:=r_24.frozen
  have lt_r:=r_24.lt
  have cell_z:=z_24.cell
  have froz_z:=z_24.frozen
  have lt_z:=z_24.lt
  have HY:=hid (show 0≤y∧y≤3 by omega)
  go_wp2_with fail
  refine calls_touch1 (w0:=w24) (L:=[w4.heap.size]) (b0:=w4.heap.size) (t0:=73) (c0:=#[.int .i64 2,.int .i64 d,.int .i64 x,.int .i64 f,.int .i64 g,.int .i64 y]) ?_ ?_ ?_
  (focus exact blkcBy)
  (focus (exact tchBy))
  intro w25 z_25 hX25
  have sX25:=hX25.size
  have b_25:=below0_touch hX25 b_24
  have T_25:=T_24.trans_new hX25 (by first | (simp; done) | (simp; omega))
  have bc_25:=cells_touch hX25 bc_24 (by omega) (by first | (simp; done) | (simp; omega))
  have cu_25:=Blk.touch hX25 cu_24 (by first | (simp; done) | (simp; omega))
  have r_25:=Blk.touch hX25 r_24 (by first | (simp; done) | (simp; omega))
  clear T_24 bc_24 cu_24 r_24 z_24 b_24 cell_cu froz_cu lt_cu cell_r froz_r lt_r cell_z froz_z lt_z hX25
  have cell_cu:=cu_25.cell
  have froz_cu:=cu_25.frozen
  have lt_cu:=cu_25.lt
  have cell_r:=r_25.cell
  have froz_r:=r_25.frozen
  have lt_r:=r_25.lt
  have cell_z:=z_25.cell
  have froz_z:=z_25.frozen
  have lt_z:=z_25.lt
  go_wp2_with fail
  refine calls_forget0 (W:=w25) ?_ ?_
  (focus (exact belBy))
  intro X26 hX26
  have sX26:=hX26.size
  refine (plain2 _ _ _ _ _ _).mono ?_
  rintro e w26 ⟨rfl,hb26⟩
  have s26:=hb26.size
  have hT26:=hX26.trans (hb26.mono sX26)
  have b_26:=b_25.trans (hT26.mono (by omega))
  have T_26:=T_25.trans (Touch.of_below hT26)
  have bc_26:=cells_below bc_25 hT26 (by omega)
  have cu_26:=Blk.past hT26 cu_25
  have r_26:=Blk.past hT26 r_25
  have z_26:=Blk.past hT26 z_25
  clear T_25 bc_25 cu_25 r_25 z_25 b_25 cell_cu froz_cu lt_cu cell_r froz_r lt_r cell_z froz_z lt_z hX26 hT26 hb26
  have cell_cu:=cu_26.cell
  have froz_cu:=cu_26.frozen
  have lt_cu:=cu_26.lt
  have cell_r:=r_26.cell
  have froz_r:=r_26.frozen
  have lt_r:=r_26.lt
  have cell_z:=z_26.cell
  have froz_z:=z_26.frozen
  have lt_z:=z_26.lt
  go_wp2_with fail
  ((try simp only [Exit.inBlock,Exit.then]); apply bodyPost_ret0; focus ((try simp only [results,Tryz.results78]); (try go_simp); (try rfl)))
  refine ⟨⟨2,d,x,0,0,y⟩,pl2 HD.out HX.out HY.out,rfl,?_,?_⟩
  ·exact Cur.touch (L:=[w.heap.size]) ⟨_,_,cu_26,cu_i0,cu_i1⟩ (by exact tchBy) (by simp; omega)
  ·exact T_26.trans_new (M:=[w.heap.size]) (by exact tchBy) (by simp)
 ·skip
  have b_20:=(Below.refl 0 w5)
  have s_20:=b_20.size
  have T_20:=T_5
  have bc_20:=bc_5
  clear bc_5
  have cu_20:=cu_5
  clear cu_5
  have cu_lt:=cu_20.lt
  have cell_cu:=cu_20.cell
  have froz_cu:=cu_20.frozen
  have lt_cu:=cu_20.lt
  have r_20:=r_5
  clear r_5
  have r_lt:=r_20.lt
  have cell_r:=r_20.cell
  have froz_r:=r_20.frozen
  have lt_r:=r_20.lt
  have z_20:=z_5
  clear z_5
  have z_lt:=z_20.lt
  have cell_z:=z_20.cell
  have froz_z:=z_20.frozen
  have lt_z:=z_20.lt
  go_wp2_with fail
  refine calls_touch1 (w0:=w5) (L:=[w4.heap.size]) (b0:=w4.heap.size) (t0:=73) (c0:=#[.int .i64 2,.int .i64 d,.int .i64 a,.int .i64 f,.int .i64 g,.int .i64 0]) ?_ ?_ ?_
  (focus exact blkcBy)
  (focus (exact tchBy))
  intro w21 z_21 hX21
  have sX21:=hX21.size
  have b_21:=below0_touch hX21 b_20
  have T_21:=T_20.trans_new hX21 (by first | (simp; done) | (simp; omega))
  have bc_21:=cells_touch hX21 bc_20 (by omega) (by first | (simp; done) | (simp; omega))
  have cu_21:=Blk.touch hX21 cu_20 (by first | (simp; done) | (simp; omega))
  have r_21:=Blk.touch hX21 r_20 (by first | (simp; done) | (simp; omega))
  clear T_20 bc_20 cu_20 r_20 z_20 b_20 cell_cu froz_cu lt_cu cell_r froz_r lt_r cell_z froz_z lt_z hX21
  have cell_cu:=cu_21.cell
  have froz_cu:=cu_21.frozen
  have lt_cu:=cu_21.lt
  have cell_r:=r_21.cell
  have froz_r:=r_21.frozen
  have lt_r:=r_21.lt
  have cell_z:=z_21.cell
  have froz_z:=z_21.frozen
  have lt_z:=z_21.lt
  go_wp2_with fail
  refine calls_forget0 (W:=w21) ?_ ?_
  (focus (exact belBy))
  intro X22 hX22
  have sX22:=hX22.size
  refine (below_any 3 _ _ _ _ _ (by omega) (by omega) (show Cur _ _ _ _ _ from ⟨_,_,Blk.past hX22 cu_21,cu_i0,cu_i1⟩) ⟨cells_below bc_21 hX22 (by omega),bc_s.out,bc_l.out⟩).mono ?_
  clear cu_i0 cu_i1
  rintro e w22 ⟨x,rfl,x0,x1,⟨i_22,h_22,cu_22,cu_i0,cu_i1⟩,hY22⟩
  have s22:=hY22.size
  have b_22:=below0_touch hY22 (b_21.trans (hX22.mono (by omega)))
  have T_22:=(T_21.trans (Touch.of_below hX22)).trans hY22
  have bc_22:=cells_touch hY22 (cells_below bc_21 hX22 (by omega)) (by omega) (by first | (simp; done) | (simp; omega))
  have r_22:=Blk.touch hY22 (Blk.past hX22 r_21) (by first | (simp; done) | (simp; omega))
  have z_22:=Blk.touch hY22 (Blk.past hX22 z_21) (by first | (simp; done) | (simp; omega))
  clear T_21 bc_21 cu_21 r_21 z_21 b_21 cell_cu froz_cu lt_cu cell_r froz_r lt_r cell_z froz_z lt_z hX22 hY22
  have cell_cu:=cu_22.cell
  have froz_cu:=cu_22.frozen
  have lt_cu:=cu_22.lt
  have cell_r:=r_22.cell
  have froz_r:=r_22.frozen
  have lt_r:=r_22.lt
  have cell_z:=z_22.cell
  have froz_z:=z_22.frozen
  have lt_z:=z_22.lt
  have HX:=hid (show 0≤x∧x≤4 by omega)
  go_wp2_with fail
  refine calls_touch1 (w0:=w22) (L:=[w4.heap.size]) (b0:=w4.heap.size) (t0:=73) (c0:=#[.int .i64 2,.int .i64 d,.int .i64 x,.int .i64 f,.int .i64 g,.int .i64 0]) ?_ ?_ ?_
  (focus exact blkcBy)
  (focus (exact tchBy))
  intro w23 z_23 hX23
  have sX23:=hX23.size
  have b_23:=below0_touch hX23 b_22
  have T_23:=T_22.trans_new hX23 (by first | (simp; done) | (simp; omega))
  have bc_23:=cells_touch hX23 bc_22 (by omega) (by first | (simp; done) | (simp; omega))
  have cu_23:=Blk.touch hX23 cu_22 (by first | (simp; done) | (simp; omega))
  have r_23:=Blk.touch hX23 r_22 (by first | (simp; done) | (simp; omega))
  clear T_22 bc_22 cu_22 r_22 z_22 b_22 cell_cu froz_cu lt_cu cell_r froz_r lt_r cell_z froz_z lt_z hX23
  have cell_cu:=cu_23.cell
  have froz_cu:=cu_23.frozen
  have lt_cu:=cu_23.lt
  have cell_r:=r_23.cell
  have froz_r:=r_23.frozen
  have lt_r:=r_23.lt
  have cell_z:=z_23.cell
  have froz_z:=z_23.frozen
  have lt_z:=z_23.lt
  go_wp2_with fail
  refine calls_forget0 (W:=w23) ?_ ?_
  (focus (exact belBy))
  intro X24 hX24
  have sX24:=hX24.size
  refine (below_any 2 _ _ _ _ _ (by omega) (by omega) (show Cur _ _ _ _ _ from ⟨_,_,Blk.past hX24 cu_23,cu_i0,cu_i1⟩) ⟨cells_below bc_23 hX24 (by omega),bc_s.out,bc_l.out⟩).mono ?_
  clear cu_i0 cu_i1
  rintro e w24 ⟨y,rfl,y0,y1,⟨i_24,h_24,cu_24,cu_i0,cu_i1⟩,hY24⟩
  have s24:=hY24.size
  have b_24:=below0_touch hY24 (b_23.trans (hX24.mono (by omega)))
  have T_24:=(T_23.trans (Touch.of_below hX24)).trans hY24
  have bc_24:=cells_touch hY24 (cells_below bc_23 hX24 (by omega)) (by omega) (by first | (simp; done) | (simp; omega))
  have r_24:=Blk.touch hY24 (Blk.past hX24 r_23) (by first | (simp; done) | (simp; omega))
  have z_24:=Blk.touch hY24 (Blk.past hX24 z_23) (by first | (simp; done) | (simp; omega))
  clear T_23 bc_23 cu_23 r_23 z_23 b_23 cell_cu froz_cu lt_cu cell_r froz_r lt_r cell_z froz_z lt_z hX24 hY24
  have cell_cu:=cu_24.cell
  have froz_cu:=cu_24.frozen
  have lt_cu:=cu_24.lt
  have cell_r:=r_24.cell
  have froz_r:=r_24.frozen
  have lt_r:=r_24.lt
  have cell_z:=z_24.cell
  have froz_z:=z_24.frozen
  have lt_z:=z_24.lt
  have HY:=hid (show 0≤y∧y≤3 by omega)
  go_wp2_with fail
  refine calls_touch1 (w0:=w24) (L:=[w4.heap.size]) (b0:=w4.heap.size) (t0:=73) (c0:=#[.int .i64 2,.int .i64 d,.int .i64 x,.int .i64 f,.int .i64 g,.int .i64 y]) ?_ ?_ ?_
  (focus exact blkcBy)
  (focus (exact tchBy))
  intro w25 z_25 hX25
  have sX25:=hX25.size
  have b_25:=below0_touch hX25 b_24
  have T_25:=T_24.trans_new hX25 (by first | (simp; done) | (simp; omega))
  have bc_25:=cells_touch hX25 bc_24 (by omega) (by first | (simp; done) | (simp; omega))
  have cu_25:=Blk.touch hX25 cu_24 (by first | (simp; done) | (simp; omega))
  have r_25:=Blk.touch hX25 r_24 (by first | (simp; done) | (simp; omega))
  clear T_24 bc_24 cu_24 r_24 z_24 b_24 cell_cu froz_cu lt_cu cell_r froz_r lt_r cell_z froz_z lt_z hX25
  have cell_cu:=cu_25.cell
  have froz_cu:=cu_25.frozen
  have lt_cu:=cu_25.lt
  have cell_r:=r_25.cell
  have froz_r:=r_25.frozen
  have lt_r:=r_25.lt
  have cell_z:=z_25.cell
  have froz_z:=z_25.frozen
  have lt_z:=z_25.lt
  go_wp2_with fail
  refine calls_forget0 (W:=w25) ?_ ?_
  (focus (exact belBy))
  intro X26 hX26
  have sX26:=hX26.size
  refine (plain2 _ _ _ _ _ _).mono ?_
  rintro e w26 ⟨rfl,hb26⟩
  have s26:=hb26.size
  have hT26:=hX26.trans (hb26.mono sX26)
  have b_26:=b_25.trans (hT26.mono (by omega))
  have T_26:=T_25.trans (Touch.of_below hT26)
  have bc_26:=cells_below bc_25 hT26 (by omega)
  have cu_26:=Blk.past hT26 cu_25
  have r_26:=Blk.past hT26 r_25
  have z_26:=Blk.past hT26 z_25
  clear T_25 bc_25 cu_25 r_25 z_25 b_25 cell_cu froz_cu lt_cu cell_r froz_r lt_r cell_z froz_z lt_z hX26 hT26 hb26
  have cell_cu:=cu_26.cell
  have froz_cu:=cu_26.frozen
  have lt_cu:=cu_26.lt
  have cell_r:=r_26.cell
  have froz_r:=r_26.frozen
  have lt_r:=r_26.lt
  have cell_z:=z_26.cell
  have froz_z:=z_26.frozen
  have lt_z:=z_26.lt
  go_wp2_with fail
  ((try simp only [Exit.inBlock,Exit.then]); apply bodyPost_ret0; focus ((try simp only [results,Tryz.results78]); (try go_simp); (try rfl)))
  refine ⟨⟨2,d,x,0,0,y⟩,pl2 HD.out HX.out HY.out,rfl,?_,?_⟩
  ·exact Cur.touch (L:=[w.heap.size]) ⟨_,_,cu_26,cu_i0,cu_i1⟩ (by exact tchBy) (by simp; omega)
  ·exact T_26.trans_new (M:=[w.heap.size]) (by exact tchBy) (by simp)
 ·skip
  have b_20:=(Below.refl 0 w5)
  have s_20:=b_20.size
  have T_20:=T_5
  have bc_20:=bc_5
  clear bc_5
  have cu_20:=cu_5
  clear cu_5
  have cu_lt:=cu_20.lt
  have cell_cu:=cu_20.cell
  have froz_cu:=cu_20.frozen
  have lt_cu:=cu_20.lt
  have r_20:=r_5
  clear r_5
  have r_lt:=r_20.lt
  have cell_r:=r_20.cell
  have froz_r:=r_20.frozen
  have lt_r:=r_20.lt
  have z_20:=z_5
  clear z_5
  have z_lt:=z_20.lt
  have cell_z:=z_20.cell
  have froz_z:=z_20.frozen
  have lt_z:=z_20.lt
  go_wp2_with fail
  refine calls_touch1 (w0:=w5) (L:=[w4.heap.size]) (b0:=w4.heap.size) (t0:=73) (c0:=#[.int .i64 2,.int .i64 d,.int .i64 a,.int .i64 f,.int .i64 g,.int .i64 0]) ?_ ?_ ?_
  (focus exact blkcBy)
  (focus (exact tchBy))
  intro w21 z_21 hX21
  have sX21:=hX21.size
  have b_21:=below0_touch hX21 b_20
  have T_21:=T_20.trans_new hX21 (by first | (simp; done) | (simp; omega))
  have bc_21:=cells_touch hX21 bc_20 (by omega) (by first | (simp; done) | (simp; omega))
  have cu_21:=Blk.touch hX21 cu_20 (by first | (simp; done) | (simp; omega))
  have r_21:=Blk.touch hX21 r_20 (by first | (simp; done) | (simp; omega))
  clear T_20 bc_20 cu_20 r_20 z_20 b_20 cell_cu froz_cu lt_cu cell_r froz_r lt_r cell_z froz_z lt_z hX21
  have cell_cu:=cu_21.cell
  have froz_cu:=cu_21.frozen
  have lt_cu:=cu_21.lt
  have cell_r:=r_21.cell
  have froz_r:=r_21.frozen
  have lt_r:=r_21.lt
  have cell_z:=z_21.cell
  have froz_z:=z_21.frozen
  have lt_z:=z_21.lt
  go_wp2_with fail
  refine calls_forget0 (W:=w21) ?_ ?_
  (focus (exact belBy))
  intro X22 hX22
  have sX22:=hX22.size
  refine (below_any 3 _ _ _ _ _ (by omega) (by omega) (show Cur _ _ _ _ _ from ⟨_,_,Blk.past hX22 cu_21,cu_i0,cu_i1⟩) ⟨cells_below bc_21 hX22 (by omega),bc_s.out,bc_l.out⟩).mono ?_
  clear cu_i0 cu_i1
  rintro e w22 ⟨x,rfl,x0,x1,⟨i_22,h_22,cu_22,cu_i0,cu_i1⟩,hY22⟩
  have s22:=hY22.size
  have b_22:=below0_touch hY22 (b_21.trans (hX22.mono (by omega)))
  have T_22:=(T_21.trans (Touch.of_below hX22)).trans hY22
  have bc_22:=cells_touch hY22 (cells_below bc_21 hX22 (by omega)) (by omega) (by first | (simp; done) | (simp; omega))
  have r_22:=Blk.touch hY22 (Blk.past hX22 r_21) (by first | (simp; done) | (simp; omega))
  have z_22:=Blk.touch hY22 (Blk.past hX22 z_21) (by first | (simp; done) | (simp; omega))
  clear T_21 bc_21 cu_21 r_21 z_21 b_21 cell_cu froz_cu lt_cu cell_r froz_r lt_r cell_z froz_z lt_z hX22 hY22
  have cell_cu:=cu_22.cell
  have froz_cu:=cu_22.frozen
  have lt_cu:=cu_22.lt
  have cell_r:=r_22.cell
  have froz_r:=r_22.frozen
  have lt_r:=r_22.lt
  have cell_z:=z_22.cell
  have froz_z:=z_22.frozen
  have lt_z:=z_22.lt
  have HX:=hid (show 0≤x∧x≤4 by omega)
  go_wp2_with fail
  refine calls_touch1 (w0:=w22) (L:=[w4.heap.size]) (b0:=w4.heap.size) (t0:=73) (c0:=#[.int .i64 2,.int .i64 d,.int .i64 x,.int .i64 f,.int .i64 g,.int .i64 0]) ?_ ?_ ?_
  (focus exact blkcBy)
  (focus (exact tchBy))
  intro w23 z_23 hX23
  have sX23:=hX23.size
  have b_23:=below0_touch hX23 b_22
  have T_23:=T_22.trans_new hX23 (by first | (simp; done) | (simp; omega))
  have bc_23:=cells_touch hX23 bc_22 (by omega) (by first | (simp; done) | (simp; omega))
  have cu_23:=Blk.touch hX23 cu_22 (by first | (simp; done) | (simp; omega))
  have r_23:=Blk.touch hX23 r_22 (by first | (simp; done) | (simp; omega))
  clear T_22 bc_22 cu_22 r_22 z_22 b_22 cell_cu froz_cu lt_cu cell_r froz_r lt_r cell_z froz_z lt_z hX23
  have cell_cu:=cu_23.cell
  have froz_cu:=cu_23.frozen
  have lt_cu:=cu_23.lt
  have cell_r:=r_23.cell
  have froz_r:=r_23.frozen
  have lt_r:=r_23.lt
  have cell_z:=z_23.cell
  have froz_z:=z_23.frozen
  have lt_z:=z_23.lt
  go_wp2_with fail
  refine calls_forget0 (W:=w23) ?_ ?_
  (focus (exact belBy))
  intro X24 hX24
  have sX24:=hX24.size
  refine (below_any 2 _ _ _ _ _ (by omega) (by omega) (show Cur _ _ _ _ _ from ⟨_,_,Blk.past hX24 cu_23,cu_i0,cu_i1⟩) ⟨cells_below bc_23 hX24 (by omega),bc_s.out,bc_l.out⟩).mono ?_
  clear cu_i0 cu_i1
  rintro e w24 ⟨y,rfl,y0,y1,⟨i_24,h_24,cu_24,cu_i0,cu_i1⟩,hY24⟩
  have s24:=hY24.size
  have b_24:=below0_touch hY24 (b_23.trans (hX24.mono (by omega)))
  have T_24:=(T_23.trans (Touch.of_below hX24)).trans hY24
  have bc_24:=cells_touch hY24 (cells_below bc_23 hX24 (by omega)) (by omega) (by first | (simp; done) | (simp; omega))
  have r_24:=Blk.touch hY24 (Blk.past hX24 r_23) (by first | (simp; done) | (simp; omega))
  have z_24:=Blk.touch hY24 (Blk.past hX24 z_23) (by first | (simp; done) | (simp; omega))
  clear T_23 bc_23 cu_23 r_23 z_23 b_23 cell_cu froz_cu lt_cu cell_r froz_r lt_r cell_z froz_z lt_z hX24 hY24
  have cell_cu:=cu_24.cell
  have froz_cu:=cu_24.frozen
  have lt_cu:=cu_24.lt
  have cell_r:=r_24.cell
  have froz_r:=r_24.frozen
  have lt_r:=r_24.lt
  have cell_z:=z_24.cell
  have froz_z:=z_24.frozen
  have lt_z:=z_24.lt
  have HY:=hid (show 0≤y∧y≤3 by omega)
  go_wp2_with fail
  refine calls_touch1 (w0:=w24) (L:=[w4.heap.size]) (b0:=w4.heap.size) (t0:=73) (c0:=#[.int .i64 2,.int .i64 d,.int .i64 x,.int .i64 f,.int .i64 g,.int .i64 y]) ?_ ?_ ?_
  (focus exact blkcBy)
  (focus (exact tchBy))
  intro w25 z_25 hX25
  have sX25:=hX25.size
  have b_25:=below0_touch hX25 b_24
  have T_25:=T_24.trans_new hX25 (by first | (simp; done) | (simp; omega))
  have bc_25:=cells_touch hX25 bc_24 (by omega) (by first | (simp; done) | (simp; omega))
  have cu_25:=Blk.touch hX25 cu_24 (by first | (simp; done) | (simp; omega))
  have r_25:=Blk.touch hX25 r_24 (by first | (simp; done) | (simp; omega))
  clear T_24 bc_24 cu_24 r_24 z_24 b_24 cell_cu froz_cu lt_cu cell_r froz_r lt_r cell_z froz_z lt_z hX25
  have cell_cu:=cu_25.cell
  have froz_cu:=cu_25.frozen
  have lt_cu:=cu_25.lt
  have cell_r:=r_25.cell
  have froz_r:=r_25.frozen
  have lt_r:=r_25.lt
  have cell_z:=z_25.cell
  have froz_z:=z_25.frozen
  have lt_z:=z_25.lt
  go_wp2_with fail
  refine calls_forget0 (W:=w25) ?_ ?_
  (focus (exact belBy))
  intro X26 hX26
  have sX26:=hX26.size
  refine (plain2 _ _ _ _ _ _).mono ?_
  rintro e w26 ⟨rfl,hb26⟩
  have s26:=hb26.size
  have hT26:=hX26.trans (hb26.mono sX26)
  have b_26:=b_25.trans (hT26.mono (by omega))
  have T_26:=T_25.trans (Touch.of_below hT26)
  have bc_26:=cells_below bc_25 hT26 (by omega)
  have cu_26:=Blk.past hT26 cu_25
  have r_26:=Blk.past hT26 r_25
  have z_26:=Blk.past hT26 z_25
  clear T_25 bc_25 cu_25 r_25 z_25 b_25 cell_cu froz_cu lt_cu cell_r froz_r lt_r cell_z froz_z lt_z hX26 hT26 hb26
  have cell_cu:=cu_26.cell
  have froz_cu:=cu_26.frozen
  have lt_cu:=cu_26.lt
  have cell_r:=r_26.cell
  have froz_r:=r_26.frozen
  have lt_r:=r_26.lt
  have cell_z:=z_26.cell
  have froz_z:=z_26.frozen
  have lt_z:=z_26.lt
  go_wp2_with fail
  ((try simp only [Exit.inBlock,Exit.then]); apply bodyPost_ret0; focus ((try simp only [results,Tryz.results78]); (try go_simp); (try rfl)))
  refine ⟨⟨2,d,x,0,0,y⟩,pl2 HD.out HX.out HY.out,rfl,?_,?_⟩
  ·exact Cur.touch (L:=[w.heap.size]) ⟨_,_,cu_26,cu_i0,cu_i1⟩ (by exact tchBy) (by simp; omega)
  ·exact T_26.trans_new (M:=[w.heap.size]) (by exact tchBy) (by simp)
 ·skip
  have b_20:=(Below.refl 0 w5)
  have s_20:=b_20.size
  have T_20:=T_5
  have bc_20:=bc_5
  clear bc_5
  have cu_20:=cu_5
  clear cu_5
  have cu_lt:=cu_20.lt
  have cell_cu:=cu_20.cell
  have froz_cu:=cu_20.frozen
  have lt_cu:=cu_20.lt
  have r_20:=r_5
  clear r_5
  have r_lt:=r_20.lt
  have cell_r:=r_20.cell
  have froz_r:=r_20.frozen
  have lt_r:=r_20.lt
  have z_20:=z_5
  clear z_5
  have z_lt:=z_20.lt
  have cell_z:=z_20.cell
  have froz_z:=z_20.frozen
  have lt_z:=z_20.lt
  go_wp2_with fail
  refine calls_touch1 (w0:=w5) (L:=[w4.heap.size]) (b0:=w4.heap.size) (t0:=73) (c0:=#[.int .i64 10,.int .i64 d,.int .i64 a,.int .i64 f,.int .i64 g,.int .i64 0]) ?_ ?_ ?_
  (focus exact blkcBy)
  (focus (exact tchBy))
  intro w21 z_21 hX21
  have sX21:=hX21.size
  have b_21:=below0_touch hX21 b_20
  have T_21:=T_20.trans_new hX21 (by first | (simp; done) | (simp; omega))
  have bc_21:=cells_touch hX21 bc_20 (by omega) (by first | (simp; done) | (simp; omega))
  have cu_21:=Blk.touch hX21 cu_20 (by first | (simp; done) | (simp; omega))
  have r_21:=Blk.touch hX21 r_20 (by first | (simp; done) | (simp; omega))
  clear T_20 bc_20 cu_20 r_20 z_20 b_20 cell_cu froz_cu lt_cu cell_r froz_r lt_r cell_z froz_z lt_z hX21
  have cell_cu:=cu_21.cell
  have froz_cu:=cu_21.frozen
  have lt_cu:=cu_21.lt
  have cell_r:=r_21.cell
  have froz_r:=r_21.frozen
  have lt_r:=r_21.lt
  have cell_z:=z_21.cell
  have froz_z:=z_21.frozen
  have lt_z:=z_21.lt
  go_wp2_with fail
  refine calls_forget0 (W:=w21) ?_ ?_
  (focus (exact belBy))
  intro X22 hX22
  have sX22:=hX22.size
  refine (plain10 _ _ _ _ _ _).mono ?_
  rintro e w22 ⟨rfl,hb22⟩
  have s22:=hb22.size
  have hT22:=hX22.trans (hb22.mono sX22)
  have b_22:=b_21.trans (hT22.mono (by omega))
  have T_22:=T_21.trans (Touch.of_below hT22)
  have bc_22:=cells_below bc_21 hT22 (by omega)
  have cu_22:=Blk.past hT22 cu_21
  have r_22:=Blk.past hT22 r_21
  have z_22:=Blk.past hT22 z_21
  clear T_21 bc_21 cu_21 r_21 z_21 b_21 cell_cu froz_cu lt_cu cell_r froz_r lt_r cell_z froz_z lt_z hX22 hT22 hb22
  have cell_cu:=cu_22.cell
  have froz_cu:=cu_22.frozen
  have lt_cu:=cu_22.lt
  have cell_r:=r_22.cell
  have froz_r:=r_22.frozen
  have lt_r:=r_22.lt
  have cell_z:=z_22.cell
  have froz_z:=z_22.frozen
  have lt_z:=z_22.lt
  go_wp2_with fail
  ((try simp only [Exit.inBlock,Exit.then]); apply bodyPost_ret0; focus ((try simp only [results,Tryz.results78]); (try go_simp); (try rfl)))
  refine ⟨⟨10,d,a,f,g,0⟩,pl10 HD.out HA.out HF.out HG.out,rfl,?_,?_⟩
  ·exact Cur.touch (L:=[w.heap.size]) ⟨_,_,cu_22,cu_i0,cu_i1⟩ (by exact tchBy) (by simp; omega)
  ·exact T_22.trans_new (M:=[w.heap.size]) (by exact tchBy) (by simp)
 ·skip
  have b_20:=(Below.refl 0 w5)
  have s_20:=b_20.size
  have T_20:=T_5
  have bc_20:=bc_5
  clear bc_5
  have cu_20:=cu_5
  clear cu_5
  have cu_lt:=cu_20.lt
  have cell_cu:=cu_20.cell
  have froz_cu:=cu_20.frozen
  have lt_cu:=cu_20.lt
  have r_20:=r_5
  clear r_5
  have r_lt:=r_20.lt
  have cell_r:=r_20.cell
  have froz_r:=r_20.frozen
  have lt_r:=r_20.lt
  have z_20:=z_5
  clear z_5
  have z_lt:=z_20.lt
  have cell_z:=z_20.cell
  have froz_z:=z_20.frozen
  have lt_z:=z_20.lt
  go_wp2_with fail
  refine calls_touch1 (w0:=w5) (L:=[w4.heap.size]) (b0:=w4.heap.size) (t0:=73) (c0:=#[.int .i64 11,.int .i64 d,.int .i64 a,.int .i64 f,.int .i64 g,.int .i64 0]) ?_ ?_ ?_
  (focus exact blkcBy)
  (focus (exact tchBy))
  intro w21 z_21 hX21
  have sX21:=hX21.size
  have b_21:=below0_touch hX21 b_20
  have T_21:=T_20.trans_new hX21 (by first | (simp; done) | (simp; omega))
  have bc_21:=cells_touch hX21 bc_20 (by omega) (by first | (simp; done) | (simp; omega))
  have cu_21:=Blk.touch hX21 cu_20 (by first | (simp; done) | (simp; omega))
  have r_21:=Blk.touch hX21 r_20 (by first | (simp; done) | (simp; omega))
  clear T_20 bc_20 cu_20 r_20 z_20 b_20 cell_cu froz_cu lt_cu cell_r froz_r lt_r cell_z froz_z lt_z hX21
  have cell_cu:=cu_21.cell
  have froz_cu:=cu_21.frozen
  have lt_cu:=cu_21.lt
  have cell_r:=r_21.cell
  have froz_r:=r_21.frozen
  have lt_r:=r_21.lt
  have cell_z:=z_21.cell
  have froz_z:=z_21.frozen
  have lt_z:=z_21.lt
  go_wp2_with fail
  refine calls_forget0 (W:=w21) ?_ ?_
  (focus (exact belBy))
  intro X22 hX22
  have sX22:=hX22.size
  refine (plain11 _ _ _ _ _ _).mono ?_
  rintro e w22 ⟨rfl,hb22⟩
  have s22:=hb22.size
  have hT22:=hX22.trans (hb22.mono sX22)
  have b_22:=b_21.trans (hT22.mono (by omega))
  have T_22:=T_21.trans (Touch.of_below hT22)
  have bc_22:=cells_below bc_21 hT22 (by omega)
  have cu_22:=Blk.past hT22 cu_21
  have r_22:=Blk.past hT22 r_21
  have z_22:=Blk.past hT22 z_21
  clear T_21 bc_21 cu_21 r_21 z_21 b_21 cell_cu froz_cu lt_cu cell_r froz_r lt_r cell_z froz_z lt_z hX22 hT22 hb22
  have cell_cu:=cu_22.cell
  have froz_cu:=cu_22.frozen
  have lt_cu:=cu_22.lt
  have cell_r:=r_22.cell
  have froz_r:=r_22.frozen
  have lt_r:=r_22.lt
  have cell_z:=z_22.cell
  have froz_z:=z_22.frozen
  have lt_z:=z_22.lt
  go_wp2_with fail
  ((try simp only [Exit.inBlock,Exit.then]); apply bodyPost_ret0; focus ((try simp only [results,Tryz.results78]); (try go_simp); (try rfl)))
  refine ⟨⟨11,0,a,0,0,0⟩,pl11 HA.out,rfl,?_,?_⟩
  ·exact Cur.touch (L:=[w.heap.size]) ⟨_,_,cu_22,cu_i0,cu_i1⟩ (by exact tchBy) (by simp; omega)
  ·exact T_22.trans_new (M:=[w.heap.size]) (by exact tchBy) (by simp)
 ·skip
  have b_20:=(Below.refl 0 w5)
  have s_20:=b_20.size
  have T_20:=T_5
  have bc_20:=bc_5
  clear bc_5
  have cu_20:=cu_5
  clear cu_5
  have cu_lt:=cu_20.lt
  have cell_cu:=cu_20.cell
  have froz_cu:=cu_20.frozen
  have lt_cu:=cu_20.lt
  have r_20:=r_5
  clear r_5
  have r_lt:=r_20.lt
  have cell_r:=r_20.cell
  have froz_r:=r_20.frozen
  have lt_r:=r_20.lt
  have z_20:=z_5
  clear z_5
  have z_lt:=z_20.lt
  have cell_z:=z_20.cell
  have froz_z:=z_20.frozen
  have lt_z:=z_20.lt
  go_wp2_with fail
  refine calls_touch1 (w0:=w5) (L:=[w4.heap.size]) (b0:=w4.heap.size) (t0:=73) (c0:=#[.int .i64 11,.int .i64 d,.int .i64 a,.int .i64 f,.int .i64 g,.int .i64 0]) ?_ ?_ ?_
  (focus exact blkcBy)
  (focus (exact tchBy))
  intro w21 z_21 hX21
  have sX21:=hX21.size
  have b_21:=below0_touch hX21 b_20
  have T_21:=T_20.trans_new hX21 (by first | (simp; done) | (simp; omega))
  have bc_21:=cells_touch hX21 bc_20 (by omega) (by first | (simp; done) | (simp; omega))
  have cu_21:=Blk.touch hX21 cu_20 (by first | (simp; done) | (simp; omega))
  have r_21:=Blk.touch hX21 r_20 (by first | (simp; done) | (simp; omega))
  clear T_20 bc_20 cu_20 r_20 z_20 b_20 cell_cu froz_cu lt_cu cell_r froz_r lt_r cell_z froz_z lt_z hX21
  have cell_cu:=cu_21.cell
  have froz_cu:=cu_21.frozen
  have lt_cu:=cu_21.lt
  have cell_r:=r_21.cell
  have froz_r:=r_21.frozen
  have lt_r:=r_21.lt
  have cell_z:=z_21.cell
  have froz_z:=z_21.frozen
  have lt_z:=z_21.lt
  go_wp2_with fail
  refine calls_forget0 (W:=w21) ?_ ?_
  (focus (exact belBy))
  intro X22 hX22
  have sX22:=hX22.size
  refine (plain11 _ _ _ _ _ _).mono ?_
  rintro e w22 ⟨rfl,hb22⟩
  have s22:=hb22.size
  have hT22:=hX22.trans (hb22.mono sX22)
  have b_22:=b_21.trans (hT22.mono (by omega))
  have T_22:=T_21.trans (Touch.of_below hT22)
  have bc_22:=cells_below bc_21 hT22 (by omega)
  have cu_22:=Blk.past hT22 cu_21
  have r_22:=Blk.past hT22 r_21
  have z_22:=Blk.past hT22 z_21
  clear T_21 bc_21 cu_21 r_21 z_21 b_21 cell_cu froz_cu lt_cu cell_r froz_r lt_r cell_z froz_z lt_z hX22 hT22 hb22
  have cell_cu:=cu_22.cell
  have froz_cu:=cu_22.frozen
  have lt_cu:=cu_22.lt
  have cell_r:=r_22.cell
  have froz_r:=r_22.frozen
  have lt_r:=r_22.lt
  have cell_z:=z_22.cell
  have froz_z:=z_22.frozen
  have lt_z:=z_22.lt
  go_wp2_with fail
  ((try simp only [Exit.inBlock,Exit.then]); apply bodyPost_ret0; focus ((try simp only [results,Tryz.results78]); (try go_simp); (try rfl)))
  refine ⟨⟨11,0,a,0,0,0⟩,pl11 HA.out,rfl,?_,?_⟩
  ·exact Cur.touch (L:=[w.heap.size]) ⟨_,_,cu_22,cu_i0,cu_i1⟩ (by exact tchBy) (by simp; omega)
  ·exact T_22.trans_new (M:=[w.heap.size]) (by exact tchBy) (by simp)
 ·skip
  have t0:(q == 0)=false:=by simp; omega
  have t1:(q == 1)=false:=by simp; omega
  have t2:(q == 2)=false:=by simp; omega
  have t3:(q == 3)=false:=by simp; omega
  have t4:(q == 4)=false:=by simp; omega
  have t5:(q == 5)=false:=by simp; omega
  have t6:(q == 6)=false:=by simp; omega
  have HK:=hid q0
  have b_20:=(Below.refl 0 w5)
  have s_20:=b_20.size
  have T_20:=T_5
  have bc_20:=bc_5
  clear bc_5
  have cu_20:=cu_5
  clear cu_5
  have cu_lt:=cu_20.lt
  have cell_cu:=cu_20.cell
  have froz_cu:=cu_20.frozen
  have lt_cu:=cu_20.lt
  have r_20:=r_5
  clear r_5
  have r_lt:=r_20.lt
  have cell_r:=r_20.cell
  have froz_r:=r_20.frozen
  have lt_r:=r_20.lt
  have z_20:=z_5
  clear z_5
  have z_lt:=z_20.lt
  have cell_z:=z_20.cell
  have froz_z:=z_20.frozen
  have lt_z:=z_20.lt
  go_wp2_with fail
  refine calls_forget0 (W:=w5) ?_ ?_
  (focus (exact belBy))
  intro X21 hX21
  have sX21:=hX21.size
  refine (below_any 7 _ _ _ _ _ (by omega) (by omega) (show Cur _ _ _ _ _ from ⟨_,_,Blk.past hX21 cu_20,cu_i0,cu_i1⟩) ⟨cells_below bc_20 hX21 (by omega),bc_s.out,bc_l.out⟩).mono ?_
  clear cu_i0 cu_i1
  rintro e w21 ⟨x,rfl,x0,x1,⟨i_21,h_21,cu_21,cu_i0,cu_i1⟩,hY21⟩
  have s21:=hY21.size
  have b_21:=below0_touch hY21 (b_20.trans (hX21.mono (by omega)))
  have T_21:=(T_20.trans (Touch.of_below hX21)).trans hY21
  have bc_21:=cells_touch hY21 (cells_below bc_20 hX21 (by omega)) (by omega) (by first | (simp; done) | (simp; omega))
  have r_21:=Blk.touch hY21 (Blk.past hX21 r_20) (by first | (simp; done) | (simp; omega))
  have z_21:=Blk.touch hY21 (Blk.past hX21 z_20) (by first | (simp; done) | (simp; omega))
  clear T_20 bc_20 cu_20 r_20 z_20 b_20 cell_cu froz_cu lt_cu cell_r froz_r lt_r cell_z froz_z lt_z hX21 hY21
  have cell_cu:=cu_21.cell
  have froz_cu:=cu_21.frozen
  have lt_cu:=cu_21.lt
  have cell_r:=r_21.cell
  have froz_r:=r_21.frozen
  have lt_r:=r_21.lt
  have cell_z:=z_21.cell
  have froz_z:=z_21.frozen
  have lt_z:=z_21.lt
  have HX:IntKind.i64.wrap (3 + x)=3 + x:=IntWalk.i64_in _ (by omega)
  have H39:=hid (show 3≤3 + x∧3 + x≤9 by omega)
  go_wp2_with fail
  refine calls_touch1 (w0:=w21) (L:=[w4.heap.size]) (b0:=w4.heap.size) (t0:=73) (c0:=#[.int .i64 (3 + x),.int .i64 d,.int .i64 a,.int .i64 f,.int .i64 g,.int .i64 0]) ?_ ?_ ?_
  (focus exact blkcBy)
  (focus (exact tchBy))
  intro w22 z_22 hX22
  have sX22:=hX22.size
  have b_22:=below0_touch hX22 b_21
  have T_22:=T_21.trans_new hX22 (by first | (simp; done) | (simp; omega))
  have bc_22:=cells_touch hX22 bc_21 (by omega) (by first | (simp; done) | (simp; omega))
  have cu_22:=Blk.touch hX22 cu_21 (by first | (simp; done) | (simp; omega))
  have r_22:=Blk.touch hX22 r_21 (by first | (simp; done) | (simp; omega))
  clear T_21 bc_21 cu_21 r_21 z_21 b_21 cell_cu froz_cu lt_cu cell_r froz_r lt_r cell_z froz_z lt_z hX22
  have cell_cu:=cu_22.cell
  have froz_cu:=cu_22.frozen
  have lt_cu:=cu_22.lt
  have cell_r:=r_22.cell
  have froz_r:=r_22.frozen
  have lt_r:=r_22.lt
  have cell_z:=z_22.cell
  have froz_z:=z_22.frozen
  have lt_z:=z_22.lt
  go_wp2_with fail
  refine calls_forget0 (W:=w22) ?_ ?_
  (focus (exact belBy))
  intro X23 hX23
  have sX23:=hX23.size
  refine (plain3 _ _ _ _ _ _ _ H39.out).mono ?_
  rintro e w23 ⟨rfl,hb23⟩
  have s23:=hb23.size
  have hT23:=hX23.trans (hb23.mono sX23)
  have b_23:=b_22.trans (hT23.mono (by omega))
  have T_23:=T_22.trans (Touch.of_below hT23)
  have bc_23:=cells_below bc_22 hT23 (by omega)
  have cu_23:=Blk.past hT23 cu_22
  have r_23:=Blk.past hT23 r_22
  have z_23:=Blk.past hT23 z_22
  clear T_22 bc_22 cu_22 r_22 z_22 b_22 cell_cu froz_cu lt_cu cell_r froz_r lt_r cell_z froz_z lt_z hX23 hT23 hb23
  have cell_cu:=cu_23.cell
  have froz_cu:=cu_23.frozen
  have lt_cu:=cu_23.lt
  have cell_r:=r_23.cell
  have froz_r:=r_23.frozen
  have lt_r:=r_23.lt
  have cell_z:=z_23.cell
  have froz_z:=z_23.frozen
  have lt_z:=z_23.lt
  go_wp2_with fail
  ((try simp only [Exit.inBlock,Exit.then]); apply bodyPost_ret0; focus ((try simp only [results,Tryz.results78]); (try go_simp); (try rfl)))
  refine ⟨⟨3 + x,d,a,f,0,0⟩,pl3 H39.out HD.out HA.out HF.out,rfl,?_,?_⟩
  ·exact Cur.touch (L:=[w.heap.size]) ⟨_,_,cu_23,cu_i0,cu_i1⟩ (by exact tchBy) (by simp; omega)
  ·exact T_23.trans_new (M:=[w.heap.size]) (by exact tchBy) (by simp)
open Go.RowKit
theorem own_kinds {w:World} {b1 b2 e1 e2 s1 s2 n1 n2:Nat} {v1 v2:Value} {xs ys:List Value} (h1:w.ownsRow b1 e1 s1 v1 n1 xs) (h2:w.ownsRow b2 e2 s2 v2 n2 ys) (hne:e1≠e2) :
  ∀ q p,v1.ownBlock=some q→v2.ownBlock=some p→q≠p:=by
 intro q p hq hp e
 subst e
 rcases h1.2 with ⟨hv,_⟩ | ⟨g,cap,cur,hv,hg,hh,_⟩
 ·rw [hv] at hq; cases hq
 ·rcases h2.2 with ⟨hv2,_⟩ | ⟨g2,cap2,cur2,hv2,hg2,hh2,_⟩
  ·rw [hv2] at hp; cases hp
  ·rw [hv] at hq
   rw [hv2] at hp
   have e1':g=q:=Option.some.inj hq
   have e2':g2=q:=Option.some.inj hp
   subst e1'
   subst e2'
   rw [hh] at hh2
   injection hh2 with hh2
   injection hh2 with _ h3 _
   exact hne h3
theorem infoInts:(Tryz.prog.info? 30).map (fun i=>(i.zero,i.size,i.bytes))=some (some (.slice none 0 0),1,24):=by kernel_rfl
def insV (ls:List (Nat × Nat × List Int)):List Value:=ls.map fun q=>.slice (some ⟨q.1,0,none⟩) 4 q.2.1
def In4 (xs:List Int):Prop:=xs.length=4∧∀ x∈xs,0≤x∧x < 16
def InsO (w:World) (base:Nat) (ls:List (Nat × Nat × List Int)):Prop:=∀ (i:Nat) (q:Nat × Nat × List Int),ls[i]? = some q→w.ownsRow base 3 1 (.slice (some ⟨q.1,0,none⟩) 4 q.2.1) 4 (ints q.2.2)∧In4 q.2.2
def InsC (w:World) (B:Nat) (ls:List (Nat × Nat × List Int)):Prop:=∀ (i:Nat) (q:Nat × Nat × List Int),ls[i]? = some q→Cells w B (some ⟨q.1,0,none⟩) (ints q.2.2)∧In4 q.2.2
theorem insV_snoc (ls:List (Nat × Nat × List Int)) (q:Nat × Nat × List Int):insV (ls ++ [q])=insV ls ++ [.slice (some ⟨q.1,0,none⟩) 4 q.2.1]:=by simp [insV]
theorem InsO.nil (w:World) (base:Nat):InsO w base []:=fun i q h=>by simp at h
theorem InsO.touch {L:List Nat} {w w':World} {base:Nat} {ls:List (Nat × Nat × List Int)} (h:InsO w base ls) (hT:Touch L w w') (hL:∀ i∈L,i < base):InsO w' base ls :=
 fun i q hq=>⟨own_touch' hT (h i q hq).1 fun g hg hm=>by have h1:=own_in (h i q hq).1 g hg; have h2:=hL g hm; omega,(h i q hq).2⟩
theorem InsO.grown {w w':World} {row:Option Nat} {base:Nat} {ls:List (Nat × Nat × List Int)} (h:InsO w base ls) (hg:w.grownBy w' row)
  (hne:∀ (i:Nat) (q:Nat × Nat × List Int),ls[i]? = some q→∀ g,row=some g→g≠q.1):InsO w' base ls :=
 fun i q hq=>⟨gr_own hg (h i q hq).1 fun g p hg' hp=>by
  have e:p=q.1:=by have:=hp; simp [Value.ownBlock] at this; exact this.symm
  rw [e]
  exact hne i q hq g hg',(h i q hq).2⟩
theorem InsO.snoc {w:World} {base:Nat} {ls:List (Nat × Nat × List Int)} (h:InsO w base ls) {g c:Nat} {xs:List Int} (ho:w.ownsRow base 3 1 (.slice (some ⟨g,0,none⟩) 4 c) 4 (ints xs)) (hx:In4 xs):InsO w base (ls ++ [(g,c,xs)]):=fun i q hq=>by
 rw [List.getElem?_append] at hq
 split at hq
 ·exact h i q hq
 ·rcases hi:i - ls.length with _ | n
  ·rw [hi] at hq
   simp at hq
   subst hq
   exact ⟨ho,hx⟩
  ·rw [hi] at hq
   simp at hq
theorem InsO.cells {w:World} {base:Nat} {ls:List (Nat × Nat × List Int)} (h:InsO w base ls):InsC w w.heap.size ls:=fun i q hq=>⟨Cells.of_own (h i q hq).1,(h i q hq).2⟩
theorem InsC.below {w w':World} {B:Nat} {ls:List (Nat × Nat × List Int)} (h:InsC w B ls) (hb:Below w.heap.size w w') (hB:B≤w.heap.size):InsC w' B ls:=fun i q hq=>⟨cells_below (h i q hq).1 hb hB,(h i q hq).2⟩
theorem InsC.more {w:World} {B B':Nat} {ls:List (Nat × Nat × List Int)} (h:InsC w B ls) (hB:B≤B'):InsC w B' ls:=fun i q hq=>⟨(h i q hq).1.more hB,(h i q hq).2⟩
theorem InsC.touch {L:List Nat} {w w':World} {B:Nat} {ls:List (Nat × Nat × List Int)} (h:InsC w B ls) (hT:Touch L w w') (hB:B≤w.heap.size) (hL:∀ i∈L,B≤i):InsC w' B ls:=fun i q hq=>⟨cells_touch hT (h i q hq).1 hB hL,(h i q hq).2⟩
set_option maxRecDepth 100000 in
set_option maxHeartbeats 1600000 in
theorem inputs_any (p:Nat) (A:Option Addr) (c:Nat) (bs:List Int) (w:World) (hc:Cur w p A bs.length c) (hb:Bytes w p A bs) :
  Calls Tryz.prog 38 #[.pointer (some ⟨p,0,none⟩)] w fun e w'=>∃ (ls:List (Nat × Nat × List Int)) (A':Option Addr) (c':Nat),ls.length=5∧e=.returned (.slice A' 5 c') ∧
   w'.ownsRow w.heap.size 30 1 (.slice A' 5 c') 5 (insV ls)∧InsO w' w.heap.size ls∧Cur w' p A bs.length c∧Touch [p] w w':=by
 have HB:=hid hb
 have HC:=hid hc
 have hp:=hc.lt
 clear hb hc
 go_enter Tryz.func38,Tryz.ntmps38
 go_wp2_with fail
 go_loopw [3,4] (fun o i wr=>∃ (k:Nat) (ls:List (Nat × Nat × List Int)) (A':Option Addr) (c':Nat),k≤5∧i=.int .i64 k∧ls.length=k∧o=.slice A' k c' ∧
  wr.ownsRow w.heap.size 30 1 (.slice A' k c') k (insV ls)∧InsO wr w.heap.size ls∧Cur wr p A bs.length c∧Touch [p] w wr) (fun _ i _=>5 - (intOf i).toNat)
 case atStart=>exact ⟨0,[],some ⟨w.heap.size,0,none⟩,0,Nat.zero_le _,rfl,rfl,rfl,own_lit (size:=1) #[] 0 rfl (Nat.le_refl _) (Nat.zero_le _) rfl,InsO.nil _ _,HC.out.alloc _,(Touch.refl _ _).alloc _⟩
 case round =>
  obtain ⟨k,ls,A',c',hk,rfl,hlen,rfl,hown,hins,hcu,htw⟩:=hrel
  have zw:=htw.size
  have HL:=hid hlen
  have HO:=hid hown
  have HI:=hid hins
  have HU:=hid hcu
  have HD:=hid htw
  clear hlen hown hcu htw hins
  by_cases hlt:k < 5
  ·have hlt':(k:Int) < 5:=by omega
   go_wp2_with fail
   refine (list_any 16 4 _ _ _ _ _ (by omega) (by omega) (by omega) HU.out (HB.out.touch HD.out (by omega))).mono ?_
   rintro e w2 ⟨xs,A1,c1,hxs,rfl,hro,hc2,hT⟩
   have z2:=hT.size
   obtain ⟨g,rfl,hg0,hg1,_⟩:=own_at hro (by omega)
   have ho2:=own_touch' hT HO.out (fun q hq=>by have h1:=own_in HO.out q hq; simp; omega)
   have HO2:=hid ho2
   have HU2:=hid hc2
   have HI2:=hid (HI.out.touch hT (by simp; omega))
   have HR2:=hid (own_weak (base':=w.heap.size) hro (by omega))
   have HD2:=hid (HD.out.trans hT)
   clear hc2 hT ho2 hro
   go_wp2_with (at_builtin; go_loud (refine wpList_appi rfl _ _ 25 rfl w.heap.size 30 (.slice none 0 0) 1 24 Tryz.underlying25 infoInts rfl (by decide) _ k _ rfl (HO2.out.alloc _) ⟨w2.heap.size,0,none⟩ 1 1 _ rfl rfl (one_new _ _ _) (by intro u hu; simp at hu; subst hu; rfl) (by omega) (by decide) (by simp; omega) ?_))
   intro A3 c3 w3 ho3 hg3 li3
   have hg:=grown_alloc hg3
   have z3:=hg.size
   have hlo:∀ q,(Value.slice A' k c').ownBlock=some q→w.heap.size≤q:=fun q hq=>(own_in HO2.out q hq).1
   have hc3:=HU2.out.grown hg (fun q hq=>by have h1:=hlo q hq; omega)
   have ht3:=HD2.out.grown hg hlo
   have hi3:=(HI2.out.snoc HR2.out hxs).grown hg (fun i q hq g' hg'=>by
    have h1:=((HI2.out.snoc HR2.out hxs) i q hq).1
    exact own_kinds HO2.out h1 (by decide) g' q.1 hg' rfl)
   rw [←insV_snoc ls (g,c1,xs)] at ho3
   have HO3:=hid ho3
   have HU3:=hid hc3
   have HD3:=hid ht3
   have HI3:=hid hi3
   clear hg hg3 li3 hlo ho3 hc3 ht3 hi3
   go_wp2
   go_roundw
   case rel=>exact ⟨k + 1,ls ++ [(g,c1,xs)],A3,c3,by omega,by go_num,by rw [List.length_append,HL.out]; rfl,rfl,HO3.out,HI3.out,HU3.out,HD3.out⟩
   case measure=>simp [intOf]; omega
  ·obtain rfl:k=5:=by omega
   go_wp2
   go_ret
   exact ⟨ls,A',c',HL.out,rfl,HO.out,HI.out,HU.out,HD.out⟩
end Go.Proofs.YtihbaieiempjeaaGreat
