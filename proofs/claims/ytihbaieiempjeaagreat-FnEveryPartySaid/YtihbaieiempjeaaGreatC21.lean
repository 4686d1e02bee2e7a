/- Lemmas of the proof: GarH, EvA, EvX, EvGI. -/
import Derived.Test.YtihbaieiempjeaaGreatC0
import Derived.Test.YtihbaieiempjeaaGreatC13
import Derived.Test.YtihbaieiempjeaaGreatC17
import Derived.Test.YtihbaieiempjeaaGreatC6
namespace Go.Proofs.YtihbaieiempjeaaGreat
open Go.RowKit
theorem iHash (x n:Int) (w:World) (hx:labelB x=true) (hn:inB n 0 1000000=true) :
  Calls Tryz.prog 106 #[.int .i64 x,.int .i64 n] w fun e w'=>e=.returned (.int .i64 (hashI x n))∧w=w':=by
 have hh:(keyedI 77 n x).tmod 65536=hashI x n:=Int.tmod_eq_emod_of_nonneg (keyedI_range 77 n x).1
 go_enter Tryz.func106,Tryz.ntmps106
 go_wp2_with first | (go_at_call 172; refine (iIsLabel _ _).mono ?_; rintro e w' ⟨rfl,rfl⟩) | (go_at_call 56; refine (iWithin _ _ _ _).mono ?_; rintro e w' ⟨rfl,rfl⟩) | (go_at_call 57; refine (iKeyed _ _ _ _).mono ?_; rintro e w' ⟨rfl,rfl⟩)
 go_ret
 exact ⟨rfl,rfl⟩
theorem mul_if {b x:Int} (hb:labelB b=true) (hx:labelB x=true):IntKind.i64.wrap (bits .and .i64 b 1 * x)=ifI (oneI b) x:=by
 obtain ⟨b0,b1⟩:=labelB_iff.1 hb
 obtain ⟨y,rfl⟩:=Int.eq_ofNat_of_zero_le b0
 have h:=labelB_iff.1 hx
 have e:bits .and .i64 ((y:Nat):Int) 1=((y % 2:Nat):Int):=by
  rw [show (1:Int)=((1:Nat):Int) from rfl,and_nat y 1 (by omega) (by omega),Nat.and_one_is_mod]
 show _=ifI (bits .and .i64 _ 1) x
 rw [e]
 rcases Nat.mod_two_eq_zero_or_one y with h2 | h2 <;> rw [h2]
 ·rw [show (((0:Nat):Int))=0 from rfl,Int.zero_mul]
  rfl
 ·rw [show (((1:Nat):Int))=1 from rfl,Int.one_mul,IntWalk.i64_in _ (by omega)]
  rfl
set_option linter.unusedVariables false in
set_option maxRecDepth 100000 in
set_option maxHeartbeats 6400000 in
theorem iGarble (G O:Option Addr) (cg co:Nat) (gs:List Gt) (os:List Int) (s a:Int) (w:World) (hg:Cells w w.heap.size G (ints (flatG gs))) (ho:Cells w w.heap.size O (ints os)) (hok:circB gs os=true) (hm:os.length≤1000000) (ht:tapeOkB s a=true) (ha:a≤900000) :
  Calls Tryz.prog 50 #[.agg #[.slice G gs.length cg,.slice O os.length co],.agg #[.int .i64 s,.int .i64 a]] w (GivesG w (deltaI s a) (garTo s (deltaI s a) gs gs.length).1 (garTo s (deltaI s a) gs gs.length).2):=by
 obtain ⟨hn6,hgv,hov⟩:=circ_parts hok
 have HG:=hid hg
 have HO:=hid ho
 have HK:=hid (fun w hg ho=>iCircOk G O cg co gs os w hg ho (by omega) hm)
 rw [hok] at HK
 have HV:=hid hgv
 have ha9:decide ((900000:Int) < a)=false:=by simp; omega
 have HT6:=hid (fun w=>iTapeOk s a w)
 rw [ht] at HT6
 have HD:=hid (fun w=>iDeltaOf s a w ht ha)
 have HZ:=hid (fun k w hk=>iInputZero s a k w ht hk)
 clear hg ho hok hgv hov ht ha
 obtain ⟨d,hd⟩:∃ d,deltaI s a=d:=⟨_,rfl⟩
 have hdl:labelB d=true:=by rw [←hd]; exact delta_label s a
 rw [hd] at HD ⊢
 have HDL:=hid hdl
 clear hd hdl
 go_enter Tryz.func50,Tryz.ntmps50
 have b_0:=(Below.refl w.heap.size w)
 have s_0:=b_0.size
 go_upto_region 1 with fail
 refine wp_forget3 (w0:=w) (B:=w.heap.size) (b0:=w.heap.size) (t0:=40) (c0:=#[.slice G gs.length cg,.slice O os.length co]) (b1:=w.heap.size + 1) (t1:=27) (c1:=#[.int .i64 s,.int .i64 a]) (b2:=w.heap.size + 2) (t2:=76) (c2:=#[.int .i64 0,.slice none 0 0,.slice none 0 0]) ?_ ?_ ?_ ?_ ?_
 (focus exact blkcBy2)
 (focus exact blkcBy2)
 (focus exact blkcBy2)
 (focus (exact belBy))
 intro w1 x_1 t_1 r_1 hX1
 have sX1:=hX1.size
 have x_lt:=x_1.lt
 have t_lt:=t_1.lt
 have r_lt:=r_1.lt
 have b_1:=b_0.trans (hX1.mono (by omega))
 clear b_0 hX1
 have cell_x:=x_1.cell
 have froz_x:=x_1.frozen
 have lt_x:=x_1.lt
 have cell_t:=t_1.cell
 have froz_t:=t_1.frozen
 have lt_t:=t_1.lt
 have cell_r:=r_1.cell
 have froz_r:=r_1.frozen
 have lt_r:=r_1.lt
 go_wp2_with fail
 refine calls_forget0 (W:=w1) ?_ ?_
 (focus (exact belBy))
 intro X2 hX2
 have sX2:=hX2.size
 refine (HK.out _ ((HG.out.below (b_1.trans (hX2.mono (by omega)))).more (by omega)) ((HO.out.below (b_1.trans (hX2.mono (by omega)))).more (by omega))).mono ?_
 rintro e w2 ⟨rfl,hb2⟩
 have s2:=hb2.size
 have hT2:=hX2.trans (hb2.mono sX2)
 have b_2:=b_1.trans (hT2.mono (by omega))
 have x_2:=Blk.past hT2 x_1
 have t_2:=Blk.past hT2 t_1
 have r_2:=Blk.past hT2 r_1
 clear x_1 t_1 r_1 b_1 cell_x froz_x lt_x cell_t froz_t lt_t cell_r froz_r lt_r hX2 hT2 hb2
 have cell_x:=x_2.cell
 have froz_x:=x_2.frozen
 have lt_x:=x_2.lt
 have cell_t:=t_2.cell
 have froz_t:=t_2.frozen
 have lt_t:=t_2.lt
 have cell_r:=r_2.cell
 have froz_r:=r_2.frozen
 have lt_r:=r_2.lt
 go_wp2_with fail
 refine calls_forget0 (W:=w2) ?_ ?_
 (focus (exact belBy))
 intro X3 hX3
 have sX3:=hX3.size
 refine (HT6.out _).mono ?_
 rintro e w3 ⟨rfl,hb3⟩
 have s3:=hb3.size
 have hT3:=hX3.trans (hb3.mono sX3)
 have b_3:=b_2.trans (hT3.mono (by omega))
 have x_3:=Blk.past hT3 x_2
 have t_3:=Blk.past hT3 t_2
 have r_3:=Blk.past hT3 r_2
 clear x_2 t_2 r_2 b_2 cell_x froz_x lt_x cell_t froz_t lt_t cell_r froz_r lt_r hX3 hT3 hb3
 have cell_x:=x_3.cell
 have froz_x:=x_3.frozen
 have lt_x:=x_3.lt
 have cell_t:=t_3.cell
 have froz_t:=t_3.frozen
 have lt_t:=t_3.lt
 have cell_r:=r_3.cell
 have froz_r:=r_3.frozen
 have lt_r:=r_3.lt
 go_upto_region 4 with fail
 refine wp_forget1 (w0:=w3) (B:=w3.heap.size) (b0:=w3.heap.size) (t0:=76) (c0:=#[.int .i64 0,.slice none 0 0,.slice none 0 0]) ?_ ?_ ?_
 (focus exact blkcBy2)
 (focus (exact belBy))
 intro w4 g_4 hX4
 have sX4:=hX4.size
 have g_lt:=g_4.lt
 have b_4:=b_3.trans (hX4.mono (by omega))
 have x_4:=Blk.past hX4 x_3
 have t_4:=Blk.past hX4 t_3
 have r_4:=Blk.past hX4 r_3
 clear x_3 t_3 r_3 b_3 cell_x froz_x lt_x cell_t froz_t lt_t cell_r froz_r lt_r hX4
 have cell_x:=x_4.cell
 have froz_x:=x_4.frozen
 have lt_x:=x_4.lt
 have cell_t:=t_4.cell
 have froz_t:=t_4.frozen
 have lt_t:=t_4.lt
 have cell_r:=r_4.cell
 have froz_r:=r_4.frozen
 have lt_r:=r_4.lt
 have cell_g:=g_4.cell
 have froz_g:=g_4.frozen
 have lt_g:=g_4.lt
 go_wp2_with fail
 refine calls_forget0 (W:=w4) ?_ ?_
 (focus (exact belBy))
 intro X5 hX5
 have sX5:=hX5.size
 refine (HD.out _).mono ?_
 rintro e w5 ⟨rfl,hb5⟩
 have s5:=hb5.size
 have hT5:=hX5.trans (hb5.mono sX5)
 have b_5:=b_4.trans (hT5.mono (by omega))
 have x_5:=Blk.past hT5 x_4
 have t_5:=Blk.past hT5 t_4
 have r_5:=Blk.past hT5 r_4
 have g_5:=Blk.past hT5 g_4
 clear x_4 t_4 r_4 g_4 b_4 cell_x froz_x lt_x cell_t froz_t lt_t cell_r froz_r lt_r cell_g froz_g lt_g hX5 hT5 hb5
 have cell_x:=x_5.cell
 have froz_x:=x_5.frozen
 have lt_x:=x_5.lt
 have cell_t:=t_5.cell
 have froz_t:=t_5.frozen
 have lt_t:=t_5.lt
 have cell_r:=r_5.cell
 have froz_r:=r_5.frozen
 have lt_r:=r_5.lt
 have cell_g:=g_5.cell
 have froz_g:=g_5.frozen
 have lt_g:=g_5.lt
 go_upto_region 5 with fail
 refine wp_touch1 (w0:=w5) (L:=[w3.heap.size]) (b0:=w3.heap.size) (t0:=76) (c0:=#[.int .i64 d,.slice none 0 0,.slice none 0 0]) ?_ ?_ ?_
 (focus exact blkcBy2)
 (focus (exact tchBy))
 intro w6 g_6 hX6
 have sX6:=hX6.size
 have b_6:=hX6.below b_5 (by first | (simp; done) | (simp; omega))
 have x_6:=Blk.touch hX6 x_5 (by first | (simp; done) | (simp; omega))
 have t_6:=Blk.touch hX6 t_5 (by first | (simp; done) | (simp; omega))
 have r_6:=Blk.touch hX6 r_5 (by first | (simp; done) | (simp; omega))
 clear x_5 t_5 r_5 g_5 b_5 cell_x froz_x lt_x cell_t froz_t lt_t cell_r froz_r lt_r cell_g froz_g lt_g hX6
 have cell_x:=x_6.cell
 have froz_x:=x_6.frozen
 have lt_x:=x_6.lt
 have cell_t:=t_6.cell
 have froz_t:=t_6.frozen
 have lt_t:=t_6.lt
 have cell_r:=r_6.cell
 have froz_r:=r_6.frozen
 have lt_r:=r_6.lt
 have cell_g:=g_6.cell
 have froz_g:=g_6.frozen
 have lt_g:=g_6.lt
 obtain ⟨bg,hbg⟩:∃ n,w3.heap.size=n:=⟨_,rfl⟩
 rw [hbg] at g_6
 have H6:=hid (show GarM w w.heap.size (w.heap.size + 1) bg (w.heap.size + 2) TGb _ _ s a d [] [] none 0 none 0 w6 from
  ⟨x_6,t_6,g_6,r_6,own_none,own_none,(fun q hq=>by cases hq),b_6,by omega,by omega,by decide⟩)
 rw [hbg]
 clear x_6 t_6 g_6 r_6 b_6 cell_t froz_t lt_t cell_r froz_r lt_r cell_g froz_g lt_g hbg
 go_wp2_with fail
 go_loopw [7,8,9,10,11,12,13,38] (fun _ _ _ _ _ _ _ i wr=>∃ (j kz kt:Nat) (Z T:Option Addr),j≤gs.length∧i=.int .i64 (j:Int)∧GarM w w.heap.size (w.heap.size + 1) bg (w.heap.size + 2) TGb #[.slice G gs.length cg,.slice O os.length co] #[.int .i64 0,.slice none 0 0,.slice none 0 0] s a d (garTo s d gs j).1 (garTo s d gs j).2 Z kz T kt wr) (fun _ _ _ _ _ _ _ i _=>gs.length - (intOf i).toNat)
 case atStart=>exact ⟨0,0,0,none,none,Nat.zero_le _,rfl,H6.out⟩
 case round =>
  clear H6 cell_x froz_x lt_x
  obtain ⟨j,kz,kt,Z,T,hj,rfl,hI⟩:=hrel
  have hzl:=gar_zeros s d gs j
  have hlab:=gar_labels (s:=s) gs HDL.out j
  have htl:=gar_tables s d gs j hj
  have hal:andG (gs.take j)≤j:=by have h:=List.length_filter_le (fun g:Gt=>g.k == 4) (gs.take j); rw [List.length_take] at h; unfold andG; omega
  have cell_x:=hI.c.cell
  have froz_x:=hI.c.frozen
  have lt_x:=hI.c.lt
  have cell_t:=hI.t.cell
  have froz_t:=hI.t.frozen
  have lt_t:=hI.t.lt
  by_cases hlt:j < gs.length
  ·obtain ⟨⟨k,x,y⟩,hx⟩:∃ s,gs[j]? = some s:=⟨_,List.getElem?_eq_getElem hlt⟩
   have hgv:=gatesB_at HV.out hx
   rw [Nat.zero_add] at hgv
   have hst:=gar_step (s:=s) (d:=d) hx
   obtain ⟨bG,og,rfl,hBg,d0,d1,d2⟩:=gt_cells HG.out hI.bl hx
   have hbg:=hI.bl.size
   obtain ⟨st,hst0⟩:∃ c,garTo s d gs j=c:=⟨_,rfl⟩
   rw [hst0] at hI hzl hlab htl hst
   obtain ⟨zs,ts⟩:=st
   dsimp only at hI hzl hlab htl hst
   have hlt':(j:Int) < (gs.length:Int):=by omega
   have hj6:(j:Int) < 6000:=by omega
   have hzb:zs.length≤6000:=by omega
   have htb:ts.length≤12000:=by omega
   have j00:(0:Int)≤(j:Int):=by omega
   have HLAB:=hid hlab
   have HI:=hid hI
   have hzj:(zs.length:Int)=j:=by omega
   have HZL:=hid hzl
   clear hI hx hst0 hlab htl hzl
   have b_30:=(Below.refl wr.heap.size wr)
   have s_30:=b_30.size
   go_upto_region 8 with fail
   refine wp_forget1 (w0:=wr) (B:=wr.heap.size) (b0:=wr.heap.size) (t0:=96) (c0:=#[.int .i64 k,.int .i64 x,.int .i64 y]) ?_ ?_ ?_
   (focus exact blkcBy2)
   (focus (exact belBy))
   intro w31 q_31 hX31
   have sX31:=hX31.size
   have q_lt:=q_31.lt
   have b_31:=b_30.trans (hX31.mono (by omega))
   clear b_30 hX31
   have cell_q:=q_31.cell
   have froz_q:=q_31.frozen
   have lt_q:=q_31.lt
   have z31:=b_31.size
   have HI3:=hid (And.intro (HI.out.below b_31) q_31)
   clear b_31 q_31 HI d0 d1 d2 cell_x froz_x lt_x cell_t froz_t lt_t
   have hI3:=HI3.out.1
   have cell_t:=hI3.t.cell
   have froz_t:=hI3.t.frozen
   have lt_t:=hI3.t.lt
   clear hI3
   rcases gate_kind hgv with hk | hk | hk | hk | hk
   ·obtain rfl:k=1:=hk
    have hab:=(gate_is1 hgv rfl).1
    dsimp only at hab
    have HS:=hid (hst.trans (show _=(zs ++ [zeroI s x],ts) by rw [garT_no (show (1:Int)≠4 by decide),List.append_nil]; rfl))
    have hxz:inB x 0 1000000=true:=inB_iff.2 (by omega)
    clear hst hgv hzj
    go_wp2_with fail
    refine Calls.mono (HZ.out x _ hxz) ?_
    rintro e w5 ⟨rfl,hb⟩
    have HW:=hid (HI3.out.1.below hb)
    have z5:=hb.size
    clear hb hxz cell_q froz_q lt_q cell_t froz_t lt_t HI3
    go_upto_region 25 with fail
    have hbk:=HW.out.g
    have hzo:=HW.out.z
    have cell_g:=hbk.cell
    have froz_g:=hbk.frozen
    have lt_g:=hbk.lt
    have hne1:=hid (own_ne_obj hzo hbk (by decide))
    have hbl:=HW.out.bl.size
    have hb1:zs.length + 1≤1000000:=by omega
    go_wp2_with (at_builtin; refine app_ints rfl _ _ rfl (base:=w.heap.size) (L:=zs) (v:=Value.slice Z zs.length kz) rfl (hzo.alloc _) (by simp; omega) [zeroI s x] rfl rfl (top_cells _ [_] _) hb1 ?_)
    intro A1 k1 w8 ho8 hg8 hl8
    have kx8:=gr_blk hg8 (hbk.alloc _) hne1.out
    have cell_8:=kx8.cell
    have froz_8:=kx8.frozen
    have lt_8:=kx8.lt
    have HF:=hid (GarM.zero HW.out (by exact belBy) ho8 hg8 (fun q hq=>(hl8 q hq).imp id (fun e=>by omega)))
    clear ho8 hg8 hl8 kx8 hbk hzo cell_g froz_g lt_g hne1 hbl hb1
    go_wp2
    go_roundw
    case rel=>exact ⟨j + 1,k1,kt,A1,T,by omega,by go_num,by rw [HS.out]; exact HF.out⟩
    case measure=>simp [intOf]; omega
   ·obtain rfl:k=2:=hk
    have HS:=hid (hst.trans (show _=(zs ++ [zeroI s (1000 + (j:Int))],ts) by rw [garT_no (show (2:Int)≠4 by decide),List.append_nil]; rfl))
    have hxz:inB (1000 + (j:Int)) 0 1000000=true:=inB_iff.2 (by omega)
    clear hst hgv hzj
    go_wp2_with fail
    refine Calls.mono (HZ.out (1000 + (j:Int)) _ hxz) ?_
    rintro e w5 ⟨rfl,hb⟩
    have HW:=hid (HI3.out.1.below hb)
    have z5:=hb.size
    clear hb hxz cell_q froz_q lt_q cell_t froz_t lt_t HI3
    go_upto_region 25 with fail
    have hbk:=HW.out.g
    have hzo:=HW.out.z
    have cell_g:=hbk.cell
    have froz_g:=hbk.frozen
    have lt_g:=hbk.lt
    have hne1:=hid (own_ne_obj hzo hbk (by decide))
    have hbl:=HW.out.bl.size
    have hb1:zs.length + 1≤1000000:=by omega
    go_wp2_with (at_builtin; refine app_ints rfl _ _ rfl (base:=w.heap.size) (L:=zs) (v:=Value.slice Z zs.length kz) rfl (hzo.alloc _) (by simp; omega) [zeroI s (1000 + (j:Int))] rfl rfl (top_cells _ [_] _) hb1 ?_)
    intro A1 k1 w8 ho8 hg8 hl8
    have kx8:=gr_blk hg8 (hbk.alloc _) hne1.out
    have cell_8:=kx8.cell
    have froz_8:=kx8.frozen
    have lt_8:=kx8.lt
    have HF:=hid (GarM.zero HW.out (by exact belBy) ho8 hg8 (fun q hq=>(hl8 q hq).imp id (fun e=>by omega)))
    clear ho8 hg8 hl8 kx8 hbk hzo cell_g froz_g lt_g hne1 hbl hb1
    go_wp2
    go_roundw
    case rel=>exact ⟨j + 1,k1,kt,A1,T,by omega,by go_num,by rw [HS.out]; exact HF.out⟩
    case measure=>simp [intOf]; omega
   ·obtain rfl:k=3:=hk
    have hab:=gate_is34 hgv (.inl rfl)
    dsimp only at hab
    obtain ⟨x,rfl⟩:=Int.eq_ofNat_of_zero_le hab.1.1
    obtain ⟨y,rfl⟩:=Int.eq_ofNat_of_zero_le hab.2.1
    have hzx:zs[x]? = some (zs.getD x 0):=by rw [List.getD_eq_getElem?_getD,List.getElem?_eq_getElem (by omega)]; rfl
    have hzy:zs[y]? = some (zs.getD y 0):=by rw [List.getD_eq_getElem?_getD,List.getElem?_eq_getElem (by omega)]; rfl
    obtain ⟨bz,oz,rfl,hBz,hcz⟩:=Cells.at_ (Cells.of_own HI3.out.1.z) (ints_get hzx)
    have fx:=hcz _ _ (ints_get hzx)
    have hlx:=getD_label HLAB.out x
    have hxlt:(x:Int) < (zs.length:Int):=by omega
    have hx0:(0:Int)≤(x:Int):=by omega
    have fy:=hcz _ _ (ints_get hzy)
    have hly:=getD_label HLAB.out y
    have hylt:(y:Int) < (zs.length:Int):=by omega
    have hy0:(0:Int)≤(y:Int):=by omega
    obtain ⟨zx,ex⟩:∃ z,zs.getD x 0=z:=⟨_,rfl⟩
    obtain ⟨zy,ey⟩:∃ z,zs.getD y 0=z:=⟨_,rfl⟩
    rw [ex] at fx hlx
    rw [ey] at fy hly
    clear hcz hzx hzy
    have q1:=cell_q 1
    have q2:=cell_q 2
    have g1:=HI3.out.1.g.cell 1
    dsimp at g1 q1 q2
    have cell_g:=HI3.out.1.g.cell
    have froz_g:=HI3.out.1.g.frozen
    have lt_g:=HI3.out.1.g.lt
    have HS:=hid (hst.trans (show _=(zs ++ [xorI zx zy],ts) by rw [garT_no (show (3:Int)≠4 by decide),List.append_nil,←ex,←ey]; rfl))
    clear hst hgv hzj hab ex ey
    go_upto_region 15 with fail
    go_quiet (fail)
    go_upto_region 25 with fail
    refine wp_forget0 (w0:=w31) (B:=w31.heap.size) (by exact belBy) ?_
    intro w5 hb
    have HW:=hid (HI3.out.1.below hb)
    have z5:=hb.size
    clear hb g1 q1 q2 cell_g froz_g lt_g fx fy hlx hly hxlt hylt hx0 hy0 cell_q froz_q lt_q cell_t froz_t lt_t HI3
    have hbk:=HW.out.g
    have hzo:=HW.out.z
    have cell_g:=hbk.cell
    have froz_g:=hbk.frozen
    have lt_g:=hbk.lt
    have hne1:=hid (own_ne_obj hzo hbk (by decide))
    have hbl:=HW.out.bl.size
    have hb1:zs.length + 1≤1000000:=by omega
    go_wp2_with (at_builtin; refine app_ints rfl _ _ rfl (base:=w.heap.size) (L:=zs) (v:=Value.slice (some ⟨bz,oz,none⟩) zs.length kz) rfl (hzo.alloc _) (by simp; omega) [xorI zx zy] rfl rfl (top_cells _ [_] _) hb1 ?_)
    intro A1 k1 w8 ho8 hg8 hl8
    have kx8:=gr_blk hg8 (hbk.alloc _) hne1.out
    have cell_8:=kx8.cell
    have froz_8:=kx8.frozen
    have lt_8:=kx8.lt
    have HF:=hid (GarM.zero HW.out (by exact belBy) ho8 hg8 (fun q hq=>(hl8 q hq).imp id (fun e=>by omega)))
    clear ho8 hg8 hl8 kx8 hbk hzo cell_g froz_g lt_g hne1 hbl hb1
    go_wp2
    go_roundw
    case rel=>exact ⟨j + 1,k1,kt,A1,T,by omega,by go_num,by rw [HS.out]; exact HF.out⟩
    case measure=>simp [intOf]; omega
   ·obtain rfl:k=4:=hk
    have hab:=gate_is34 hgv (.inr rfl)
    dsimp only at hab
    obtain ⟨x,rfl⟩:=Int.eq_ofNat_of_zero_le hab.1.1
    obtain ⟨y,rfl⟩:=Int.eq_ofNat_of_zero_le hab.2.1
    have hzx:zs[x]? = some (zs.getD x 0):=by rw [List.getD_eq_getElem?_getD,List.getElem?_eq_getElem (by omega)]; rfl
    have hzy:zs[y]? = some (zs.getD y 0):=by rw [List.getD_eq_getElem?_getD,List.getElem?_eq_getElem (by omega)]; rfl
    obtain ⟨bz,oz,rfl,hBz,hcz⟩:=Cells.at_ (Cells.of_own HI3.out.1.z) (ints_get hzx)
    have fx:=hcz _ _ (ints_get hzx)
    have hlx:=getD_label HLAB.out x
    have hxlt:(x:Int) < (zs.length:Int):=by omega
    have hx0:(0:Int)≤(x:Int):=by omega
    have fy:=hcz _ _ (ints_get hzy)
    have hly:=getD_label HLAB.out y
    have hylt:(y:Int) < (zs.length:Int):=by omega
    have hy0:(0:Int)≤(y:Int):=by omega
    obtain ⟨zx,ex⟩:∃ z,zs.getD x 0=z:=⟨_,rfl⟩
    obtain ⟨zy,ey⟩:∃ z,zs.getD y 0=z:=⟨_,rfl⟩
    rw [ex] at fx hlx
    rw [ey] at fy hly
    clear hcz hzx hzy
    have q1:=cell_q 1
    have q2:=cell_q 2
    have g1:=HI3.out.1.g.cell 1
    dsimp at g1 q1 q2
    have cell_g:=HI3.out.1.g.cell
    have froz_g:=HI3.out.1.g.frozen
    have lt_g:=HI3.out.1.g.lt
    have hn0:inB (2 * (j:Int)) 0 1000000=true:=inB_iff.2 (by omega)
    have hn1:inB (2 * (j:Int) + 1) 0 1000000=true:=inB_iff.2 (by omega)
    have hxd:=xorI_label hlx HDL.out
    have hyd:=xorI_label hly HDL.out
    have K1:=hid (fun w=>iHash zx (2 * (j:Int)) w hlx hn0)
    have K2:=hid (fun w=>iHash (bits .xor .i64 zx d) (2 * (j:Int)) w hxd hn0)
    have K3:=hid (fun w=>iHash zy (2 * (j:Int) + 1) w hly hn1)
    have K4:=hid (fun w=>iHash (bits .xor .i64 zy d) (2 * (j:Int) + 1) w hyd hn1)
    have L1:=hash_label zx (2 * (j:Int))
    have L2:=hash_label (bits .xor .i64 zx d) (2 * (j:Int))
    have L3:=hash_label zy (2 * (j:Int) + 1)
    have L4:=hash_label (bits .xor .i64 zy d) (2 * (j:Int) + 1)
    obtain ⟨h1,e1⟩:∃ h,hashI zx (2 * (j:Int))=h:=⟨_,rfl⟩
    obtain ⟨h2,e2⟩:∃ h,hashI (bits .xor .i64 zx d) (2 * (j:Int))=h:=⟨_,rfl⟩
    obtain ⟨h3,e3⟩:∃ h,hashI zy (2 * (j:Int) + 1)=h:=⟨_,rfl⟩
    obtain ⟨h4,e4⟩:∃ h,hashI (bits .xor .i64 zy d) (2 * (j:Int) + 1)=h:=⟨_,rfl⟩
    rw [e1] at K1 L1
    rw [e2] at K2 L2
    rw [e3] at K3 L3
    rw [e4] at K4 L4
    have M1:=mul_if hly HDL.out
    obtain ⟨m1,f1⟩:∃ m,ifI (oneI zy) d=m:=⟨_,rfl⟩
    have N1:=ifI_label (b:=oneI zy) HDL.out
    rw [f1] at M1 N1
    have M2:=mul_if hlx (xor_label (xor_label L1 L2) N1)
    obtain ⟨m2,f2⟩:∃ m,ifI (oneI zx) (bits .xor .i64 (bits .xor .i64 h1 h2) m1)=m:=⟨_,rfl⟩
    rw [f2] at M2
    have M3:=mul_if hly (xor_label (xor_label (xor_label L3 L4) hlx) hlx)
    obtain ⟨m3,f3⟩:∃ m,ifI (oneI zy) (bits .xor .i64 (bits .xor .i64 (bits .xor .i64 h3 h4) zx) zx)=m:=⟨_,rfl⟩
    rw [f3] at M3
    have HS:=hid (hst.trans (show _=(zs ++ [bits .xor .i64 (bits .xor .i64 (bits .xor .i64 h1 h3) m2) m3],ts ++ [bits .xor .i64 (bits .xor .i64 h1 h2) m1,bits .xor .i64 (bits .xor .i64 h3 h4) zx]) by rw [←f3,←f2,←f1,←e1,←e2,←e3,←e4,←ex,←ey]; rfl))
    clear hst hgv hzj hab ex ey e1 e2 e3 e4 f1 f2 f3 L1 L2 L3 L4 N1 hlx hly hxd hyd hn0 hn1
    have HGB:=hid HI3.out.1.g
    go_upto_region 21 with fail
    have qg:=fun (x:Later w31) (o:Nat)=>(HGB.out.past x.below).cell o
    refine wp_region_later (by kernel_rfl) (by kernel_rfl) ?_
    repeat (go_big_quiet_step (first | (go_at_call 106; with_reducible exact Calls.later_same (K1.out _)) | (go_at_call 106; with_reducible exact Calls.later_same (K2.out _))))
    refine wpQuiet_nil ?_
    rintro _ ⟨⟨w41,hb41⟩,rfl⟩
    try dsimp only
    have z41:=hb41.size
    clear qg
    go_upto_region 22 with fail
    refine wp_forget0 (w0:=w31) (B:=w31.heap.size) (by exact belBy) ?_
    intro w43 hb43
    have z43:=hb43.size
    have HGC:=hid (HGB.out.past hb43)
    have qg:=fun (x:Later w43) (o:Nat)=>(HGC.out.past x.below).cell o
    refine wp_region_later (by kernel_rfl) (by kernel_rfl) ?_
    repeat (go_big_quiet_step (first | (go_at_call 106; with_reducible exact Calls.later_same (K3.out _)) | (go_at_call 106; with_reducible exact Calls.later_same (K4.out _))))
    refine wpQuiet_nil ?_
    rintro _ ⟨⟨w44,hb44⟩,rfl⟩
    try dsimp only
    clear qg HGC HGB
    go_upto_region 23 with fail
    refine wp_forget0 (w0:=w31) (B:=w31.heap.size) (by exact belBy) ?_
    intro w4 hb
    have HW:=hid (HI3.out.1.below hb)
    have z5:=hb.size
    clear hb g1 q1 q2 cell_g froz_g lt_g fx fy hxlt hylt hx0 hy0 cell_q froz_q lt_q cell_t froz_t lt_t HI3
    have hbk:=HW.out.g
    have hzo:=HW.out.ta
    have cell_g:=hbk.cell
    have froz_g:=hbk.frozen
    have lt_g:=hbk.lt
    have hne1:=hid (own_ne_obj hzo hbk (by decide))
    have hbl:=HW.out.bl.size
    have hb1:ts.length + 2≤1000000:=by omega
    go_wp2_with (at_builtin; refine app_ints rfl _ _ rfl (base:=w.heap.size) (L:=ts) (v:=Value.slice T ts.length kt) rfl (hzo.alloc _) (by simp; omega) [bits .xor .i64 (bits .xor .i64 h1 h2) m1,bits .xor .i64 (bits .xor .i64 h3 h4) zx] rfl rfl (top_cells _ [_,_] _) hb1 ?_)
    intro A1 k1 w8 ho8 hg8 hl8
    have kx8:=gr_blk hg8 (hbk.alloc _) hne1.out
    have cell_8:=kx8.cell
    have froz_8:=kx8.frozen
    have lt_8:=kx8.lt
    have HF:=hid (GarM.tab HW.out (by exact belBy) ho8 hg8 (fun q hq=>(hl8 q hq).imp id (fun e=>by omega)))
    clear ho8 hg8 hl8 kx8 hbk hzo cell_g froz_g lt_g hne1 hbl hb1
    go_wp2_with fail
    refine Calls.mono (K1.out _) ?_
    rintro e w' ⟨rfl,rfl⟩
    go_wp2_with fail
    refine Calls.mono (K3.out _) ?_
    rintro e w' ⟨rfl,rfl⟩
    go_upto_region 25 with fail
    obtain ⟨w5,hw5⟩:∃ z,w8.setCell ⟨bg,2,none⟩ (Value.slice A1 (ts.length + 2) k1)=z:=⟨_,rfl⟩
    rw [hw5] at HF ⊢
    have HW:=HF
    obtain ⟨T,hT⟩:∃ q,A1=q:=⟨_,rfl⟩
    obtain ⟨kt,hkt⟩:∃ q,k1=q:=⟨_,rfl⟩
    rw [hT,hkt] at HW
    clear hw5 HF cell_8 froz_8 lt_8 hT hkt
    have hbk:=HW.out.g
    have hzo:=HW.out.z
    have cell_g:=hbk.cell
    have froz_g:=hbk.frozen
    have lt_g:=hbk.lt
    have hne1:=hid (own_ne_obj hzo hbk (by decide))
    have hbl:=HW.out.bl.size
    have hb1:zs.length + 1≤1000000:=by omega
    go_wp2_with (at_builtin; refine app_ints rfl _ _ rfl (base:=w.heap.size) (L:=zs) (v:=Value.slice (some ⟨bz,oz,none⟩) zs.length kz) rfl (hzo.alloc _) (by simp; omega) [bits .xor .i64 (bits .xor .i64 (bits .xor .i64 h1 h3) m2) m3] rfl rfl (top_cells _ [_] _) hb1 ?_)
    intro A1 k1 w8 ho8 hg8 hl8
    have kx8:=gr_blk hg8 (hbk.alloc _) hne1.out
    have cell_8:=kx8.cell
    have froz_8:=kx8.frozen
    have lt_8:=kx8.lt
    have HF:=hid (GarM.zero HW.out (by exact belBy) ho8 hg8 (fun q hq=>(hl8 q hq).imp id (fun e=>by omega)))
    clear ho8 hg8 hl8 kx8 hbk hzo cell_g froz_g lt_g hne1 hbl hb1
    go_wp2
    go_roundw
    case rel=>exact ⟨j + 1,k1,kt,A1,T,by omega,by go_num,by rw [HS.out]; exact HF.out⟩
    case measure=>simp [intOf]; omega
   ·obtain rfl:k=5:=hk
    have hab:=(gate_is5 hgv rfl).1
    dsimp only at hab
    obtain ⟨x,rfl⟩:=Int.eq_ofNat_of_zero_le hab.1
    have hzx:zs[x]? = some (zs.getD x 0):=by rw [List.getD_eq_getElem?_getD,List.getElem?_eq_getElem (by omega)]; rfl
    obtain ⟨bz,oz,rfl,hBz,hcz⟩:=Cells.at_ (Cells.of_own HI3.out.1.z) (ints_get hzx)
    have fx:=hcz _ _ (ints_get hzx)
    have hlx:=getD_label HLAB.out x
    have hxlt:(x:Int) < (zs.length:Int):=by omega
    have hx0:(0:Int)≤(x:Int):=by omega
    obtain ⟨zx,ex⟩:∃ z,zs.getD x 0=z:=⟨_,rfl⟩
    rw [ex] at fx hlx
    clear hcz hzx
    have q1:=cell_q 1
    have g1:=HI3.out.1.g.cell 1
    dsimp at g1 q1
    have cell_g:=HI3.out.1.g.cell
    have froz_g:=HI3.out.1.g.frozen
    have lt_g:=HI3.out.1.g.lt
    have HS:=hid (hst.trans (show _=(zs ++ [xorI zx d],ts) by rw [garT_no (show (5:Int)≠4 by decide),List.append_nil,←ex]; rfl))
    clear hst hgv hzj hab ex
    have g0:=HI3.out.1.g.cell 0
    dsimp at g0
    go_upto_region 17 with fail
    go_quiet (fail)
    go_upto_region 25 with fail
    refine wp_forget0 (w0:=w31) (B:=w31.heap.size) (by exact belBy) ?_
    intro w5 hb
    have HW:=hid (HI3.out.1.below hb)
    have z5:=hb.size
    clear hb g0 g1 q1 cell_g froz_g lt_g fx hlx hxlt hx0 cell_q froz_q lt_q cell_t froz_t lt_t HI3
    have hbk:=HW.out.g
    have hzo:=HW.out.z
    have cell_g:=hbk.cell
    have froz_g:=hbk.frozen
    have lt_g:=hbk.lt
    have hne1:=hid (own_ne_obj hzo hbk (by decide))
    have hbl:=HW.out.bl.size
    have hb1:zs.length + 1≤1000000:=by omega
    go_wp2_with (at_builtin; refine app_ints rfl _ _ rfl (base:=w.heap.size) (L:=zs) (v:=Value.slice (some ⟨bz,oz,none⟩) zs.length kz) rfl (hzo.alloc _) (by simp; omega) [xorI zx d] rfl rfl (top_cells _ [_] _) hb1 ?_)
    intro A1 k1 w8 ho8 hg8 hl8
    have kx8:=gr_blk hg8 (hbk.alloc _) hne1.out
    have cell_8:=kx8.cell
    have froz_8:=kx8.frozen
    have lt_8:=kx8.lt
    have HF:=hid (GarM.zero HW.out (by exact belBy) ho8 hg8 (fun q hq=>(hl8 q hq).imp id (fun e=>by omega)))
    clear ho8 hg8 hl8 kx8 hbk hzo cell_g froz_g lt_g hne1 hbl hb1
    go_wp2
    go_roundw
    case rel=>exact ⟨j + 1,k1,kt,A1,T,by omega,by go_num,by rw [HS.out]; exact HF.out⟩
    case measure=>simp [intOf]; omega
  ·obtain rfl:j=gs.length:=by omega
   have hbk:=hI.g
   have cell_g:=hbk.cell
   have froz_g:=hbk.frozen
   have lt_g:=hbk.lt
   have cell_r:=hI.r.cell
   have froz_r:=hI.r.frozen
   have lt_r:=hI.r.lt
   have hne:bg≠w.heap.size + 2:=hI.hr.symm
   have hne2:w.heap.size + 2≠bg:=hI.hr
   have HI:=hid hI
   clear hI hbk hlab hzl htl hal
   go_wp2
   ((try simp only [Exit.inBlock,Exit.then]); apply bodyPost_ret0; focus ((try simp only [results,Tryz.results50]); (try go_simp); (try rfl)))
   exact HI.out.give (by exact tchBy) (by omega)
open Go.RowKit
theorem evA_label {a g e:Int} (b n:Int) (ha:labelB a=true) (hg:labelB g=true) (he:labelB e=true):labelB (evA a b g e n)=true :=
 xorI_label (xorI_label (xorI_label (hash_label _ _) (hash_label _ _)) (ifI_label hg)) (ifI_label (xorI_label he ha))
set_option maxHeartbeats 1600000 in
theorem iEvalAnd (a b g e:Int) (n:Nat) (w:World) (ha:labelB a=true) (hb:labelB b=true) (hg:labelB g=true) (he:labelB e=true) (hn:n≤6000) :
  Calls Tryz.prog 111 #[.int .i64 a,.int .i64 b,.int .i64 g,.int .i64 e,.int .i64 (n:Int)] w fun r w'=>r=.returned (.int .i64 (evA a b g e (n:Int)))∧Below w.heap.size w w':=by
 have h6:inB (n:Int) 0 6000=true:=inB_iff.2 (by omega)
 have hn0:inB (2 * (n:Int)) 0 1000000=true:=inB_iff.2 (by omega)
 have hn1:inB (2 * (n:Int) + 1) 0 1000000=true:=inB_iff.2 (by omega)
 have K1:=hid (fun w=>iHash a (2 * (n:Int)) w ha hn0)
 have K2:=hid (fun w=>iHash b (2 * (n:Int) + 1) w hb hn1)
 have L4:=hid (fun c t w=>iLab4 a b g e c t w ha hb hg he)
 have n6:(n:Int)≤6000:=by omega
 have M1:=mul_if ha hg
 have M2:=mul_if hb (xor_label he ha)
 clear hn0 hn1
 unfold evA
 obtain ⟨h1,e1⟩:∃ h,hashI a (2 * (n:Int))=h:=⟨_,rfl⟩
 obtain ⟨h2,e2⟩:∃ h,hashI b (2 * (n:Int) + 1)=h:=⟨_,rfl⟩
 obtain ⟨m1,f1⟩:∃ m,ifI (oneI a) g=m:=⟨_,rfl⟩
 obtain ⟨m2,f2⟩:∃ m,ifI (oneI b) (xorI e a)=m:=⟨_,rfl⟩
 have f2':ifI (oneI b) (bits .xor .i64 e a)=m2:=f2
 rw [e1] at K1 ⊢
 rw [e2] at K2 ⊢
 rw [f1] at M1 ⊢
 rw [f2'] at M2
 rw [f2]
 clear e1 e2 f1 f2 f2'
 go_enter Tryz.func111,Tryz.ntmps111
 go_wp2_with first | (go_at_call 110; (with_reducible refine (L4.out _ _ _).mono ?_); rintro e w' ⟨rfl,rfl⟩) | (go_at_call 56; refine (iWithin _ _ _ _).mono ?_; rintro e w' ⟨rfl,rfl⟩) | (go_at_call 106; (with_reducible refine (K1.out _).mono ?_); rintro e w' ⟨rfl,rfl⟩) | (go_at_call 106; (with_reducible refine (K2.out _).mono ?_); rintro e w' ⟨rfl,rfl⟩)
 go_ret
 refine ⟨rfl,?_⟩
 exact belBy
open Go.RowKit
theorem evW_label {T C ls out:List Int} (hT:∀ x∈T,labelB x=true) (hC:∀ x∈C,labelB x=true) (hl:∀ x∈ls,labelB x=true) (ho:∀ x∈out,labelB x=true) (ka kc n:Nat) (g:Gt):labelB (evW T C ls out ka kc n g)=true:=by
 unfold evW
 split
 ·exact getD_label hl _
 split
 ·exact getD_label hC _
 split
 ·exact xorI_label (getD_label ho _) (getD_label ho _)
 split
 ·exact getD_label ho _
 ·exact evA_label _ _ (getD_label ho _) (getD_label hT _) (getD_label hT _)
theorem evTo_labels {T C ls:List Int} {gs:List Gt} (hT:∀ x∈T,labelB x=true) (hC:∀ x∈C,labelB x=true) (hl:∀ x∈ls,labelB x=true):∀ j,∀ z∈evTo T C ls gs j,labelB z=true
 | 0=>by simp [evTo]
 | j + 1=>by
  intro z hz
  have ih:=evTo_labels hT hC hl (gs:=gs) j
  rw [evTo,List.mem_append] at hz
  rcases hz with hz | hz
  ·exact ih z hz
  ·rw [List.mem_singleton] at hz
   subst hz
   exact evW_label hT hC hl ih _ _ _ _
theorem ev_step {T C ls:List Int} {gs:List Gt} {j:Nat} {g:Gt} (h:gs[j]? = some g):evTo T C ls gs (j + 1)=evTo T C ls gs j ++ [evW T C ls (evTo T C ls gs j) (andG (gs.take j)) (conG (gs.take j)) j g]:=by
 rw [evTo,List.getD_eq_getElem?_getD,h]
 rfl
theorem cnt_step {gs:List Gt} {j:Nat} {g:Gt} (h:gs[j]? = some g):andG (gs.take (j + 1))=andG (gs.take j) + andOne g∧conG (gs.take (j + 1))=conG (gs.take j) + conOne g:=by
 have e:=take_any h
 rw [e]
 exact ⟨andG_snoc _ _,conG_snoc _ _⟩
theorem cnt_le (gs:List Gt) (j:Nat):andG (gs.take j)≤cntG gs 4∧conG (gs.take j)≤cntG gs 2 :=
 ⟨((List.take_sublist j gs).filter _).length_le,((List.take_sublist j gs).filter _).length_le⟩
theorem cnt_lt4 {gs:List Gt} {j:Nat} {x y:Int} (h:gs[j]? = some ⟨4,x,y⟩):andG (gs.take j) < cntG gs 4:=by
 have h1:=(cnt_step h).1
 have h2:=(cnt_le gs (j + 1)).1
 have e:andOne ⟨4,x,y⟩=1:=rfl
 omega
theorem cnt_lt2 {gs:List Gt} {j:Nat} {x y:Int} (h:gs[j]? = some ⟨2,x,y⟩):conG (gs.take j) < cntG gs 2:=by
 have h1:=(cnt_step h).2
 have h2:=(cnt_le gs (j + 1)).2
 have e:conOne ⟨2,x,y⟩=1:=rfl
 omega
theorem con_labels {d:Int} {zs:List Int} {gs:List Gt} (hd:labelB d=true) (hz:∀ x∈zs,labelB x=true):∀ j,∀ x∈conTo d zs gs j,labelB x=true
 | 0=>by simp [conTo]
 | j + 1=>by
  intro x hx
  rw [conTo,List.mem_append] at hx
  rcases hx with hx | hx
  ·exact con_labels hd hz j x hx
  ·unfold conP at hx
   split at hx
   ·rw [List.mem_singleton] at hx
    subst hx
    exact lbl_label _ (getD_label hz _) hd
   ·cases hx
theorem one_bit {x:Int} (h:labelB x=true):inB (oneI x) 0 1=true:=by
 obtain ⟨y,rfl⟩:=lab_of h
 rw [lab_one]
 exact inB_iff.2 (by omega)
theorem dec_bits {zs os:List Int} (hz:∀ x∈zs,labelB x=true):bitsB (decL zs os)=true:=by
 unfold bitsB decL
 rw [List.all_eq_true]
 intro x hx
 obtain ⟨w,_,rfl⟩:=List.mem_map.1 hx
 exact one_bit (getD_label hz _)
theorem gar_ok (s a:Int) {gs:List Gt} {os:List Int} (h:circB gs os=true) (hm:os.length≤1000000):GarOk gs os (deltaI s a) (garZs s a gs) (garTs s a gs) :=
 ⟨h,hm,delta_label s a,delta_odd s a,gar_labels gs (delta_label s a) _,gar_tlabels gs (delta_label s a) _,gar_zeros _ _ _ _,by
  have e:=gar_tables s (deltaI s a) gs gs.length (Nat.le_refl _)
  rw [List.take_length] at e
  exact e⟩
theorem pub_ok (s a:Int) {gs:List Gt} {os:List Int} (h:circB gs os=true) (hm:os.length≤1000000):PubOk gs os (garTs s a gs) (garCs s a gs) (decL (garZs s a gs) os) :=
 ⟨h,hm,(gar_ok s a h hm).t,con_labels (delta_label s a) (gar_ok s a h hm).z _,dec_bits (gar_ok s a h hm).z,(gar_ok s a h hm).tn,by
  have e:=conTo_length (deltaI s a) (garZs s a gs) gs gs.length (Nat.le_refl _)
  rw [List.take_length] at e
  exact e,by unfold decL; simp⟩
theorem wire_labels (s a:Int) {gs:List Gt} {os ls:List Int} (h:circB gs os=true) (hm:os.length≤1000000) (hl:∀ x∈ls,labelB x=true):∀ x∈wireL s a gs ls,labelB x=true :=
 evTo_labels (pub_ok s a h hm).t (pub_ok s a h hm).k hl _
theorem labs_labels (s a:Int) (B:List Int):∀ n,∀ x∈labsTo s a B n,labelB x=true
 | 0=>by simp [labsTo]
 | n + 1=>by
  intro x hx
  rw [labsTo,List.mem_append] at hx
  rcases hx with hx | hx
  ·exact labs_labels s a B n x hx
  ·rw [List.mem_singleton] at hx
   subst hx
   exact lbl_label _ (zero_label _ _) (delta_label _ _)
open Go.RowKit
def GivesR (w:World) (xs:List Int) (e:Ending) (w':World):Prop :=
 ∃ A c,e=.returned (.tuple #[.slice A xs.length c,.bool true])∧w'.ownsRow w.heap.size 3 1 (.slice A xs.length c) xs.length (ints xs)∧Below w.heap.size w w'
set_option linter.unusedVariables false in
set_option maxRecDepth 100000 in
set_option maxHeartbeats 6400000 in
theorem iEvalGarbled (G O T K D L:Option Addr) (cg co ct ck cd cl:Nat) (gs:List Gt) (os ts cs ds ls:List Int) (w:World) (hg:Cells w w.heap.size G (ints (flatG gs))) (ho:Cells w w.heap.size O (ints os)) (ht:Cells w w.heap.size T (ints ts)) (hc:Cells w w.heap.size K (ints cs)) (hd:Cells w w.heap.size D (ints ds)) (hl:Cells w w.heap.size L (ints ls)) (h:PubOk gs os ts cs ds) (hll:∀ x∈ls,labelB x=true) (hln:ls.length=80) :
  Calls Tryz.prog 52 #[.agg #[.slice G gs.length cg,.slice O os.length co],.agg #[.slice T ts.length ct,.slice K cs.length ck,.slice D ds.length cd],.slice L ls.length cl] w (GivesR w (evTo ts cs ls gs gs.length)):=by
 obtain ⟨hn6,hgv,hov⟩:=circ_parts h.c
 have HC:=hid (And.intro hg (And.intro ho (And.intro ht (And.intro hc (And.intro hd hl)))))
 have HK:=hid (fun w hg ho ht hc hd=>iPublicOk G O T K D cg co ct ck cd gs os ts cs ds w hg ho ht hc hd h)
 have HV:=hid hgv
 have HT:=hid h.t
 have HS:=hid h.k
 have HLL:=hid hll
 have htn:=Nat.le_of_eq h.tn.symm
 have hkn:=Nat.le_of_eq h.kn.symm
 have hln2:=Nat.le_of_eq hln.symm
 have hc4:=cntG_le gs 4
 have HLB:=hid (fun w hc=>iLabels L cl ls w (fun j x hx=>hll x (List.mem_of_getElem? hx)) hc (by omega))
 have e8:((ls.length:Int) != 80)=false:=by rw [hln]; rfl
 rw [show GivesR w (evTo ts cs ls gs gs.length)=fun e w'=>∃ A c,e=.returned (.tuple #[.slice A gs.length c,.bool true])∧w'.ownsRow w.heap.size 3 1 (.slice A gs.length c) gs.length (ints (evTo ts cs ls gs gs.length))∧Below w.heap.size w w' by unfold GivesR; rw [evTo_length]]
 clear hg ho ht hc hd hl h hgv hov hll hln
 go_enter Tryz.func52,Tryz.ntmps52
 go_upto_region 1 with fail
 apply wp_forget2 (b0:=w.heap.size) (b1:=w.heap.size + 1) (w0:=w) (B:=w.heap.size)
 focus (exact blkBy)
 focus (exact blkBy)
 focus (exact belBy)
 intro W1 k0 k1 hbW
 have c0:=k0.cell
 have f0:=k0.frozen
 have z0:=k0.lt
 have c1:=k1.cell
 have f1:=k1.frozen
 have z1:=k1.lt
 have hbs:=hbW.size
 have HCW:=hid (And.intro ((HC.out.1.below hbW).more hbW.size) (And.intro ((HC.out.2.1.below hbW).more hbW.size) (And.intro ((HC.out.2.2.1.below hbW).more hbW.size) (And.intro ((HC.out.2.2.2.1.below hbW).more hbW.size) (And.intro ((HC.out.2.2.2.2.1.below hbW).more hbW.size) ((HC.out.2.2.2.2.2.below hbW).more hbW.size))))))
 go_wp2_with fail
 refine Calls.mono (HK.out _ HCW.out.1 HCW.out.2.1 HCW.out.2.2.1 HCW.out.2.2.2.1 HCW.out.2.2.2.2.1) ?_
 rintro e w1 ⟨rfl,hb1⟩
 have hz10:=hb1.size
 have k1a:=k0.past hb1
 have k1b:=k1.past hb1
 clear c0 f0 z0 c1 f1 z1
 have c0:=k1a.cell
 have f0:=k1a.frozen
 have z0:=k1a.lt
 have c1:=k1b.cell
 have f1:=k1b.frozen
 have z1:=k1b.lt
 go_wp2_with fail
 refine Calls.mono (HLB.out _ ((HCW.out.2.2.2.2.2.below hb1).more hz10)) ?_
 rintro e w' ⟨rfl,rfl⟩
 have HU:=hid (And.intro k1a (And.intro k1b (hbW.trans (hb1.mono hbW.size))))
 clear HCW HK HLB k0 k1 k1a k1b f0 c1 f1 z1
 have hz1:=HU.out.2.2.size
 go_wp2_with fail
 go_loopw [8,9,10,11,12,13,32] (fun o kc ka _ _ _ i wr=>∃ (j k':Nat) (A':Option Addr),j≤gs.length∧i=.int .i64 (j:Int)∧ka=.int .i64 (andG (gs.take j):Int)∧kc=.int .i64 (conG (gs.take j):Int)∧o=.slice A' j k'∧wr.ownsRow w.heap.size 3 1 (.slice A' j k') j (ints (evTo ts cs ls gs j))∧Blk wr w.heap.size TS #[.slice G gs.length cg,.slice O os.length co]∧Blk wr (w.heap.size + 1) TPb #[.slice T ts.length ct,.slice K cs.length ck,.slice D ds.length cd]∧Below w.heap.size w wr) (fun _ _ _ _ _ _ i _=>gs.length - (intOf i).toNat)
 case atStart=>exact ⟨0,0,some ⟨w1.heap.size,0,none⟩,Nat.zero_le _,rfl,rfl,rfl,rfl,own_lit (size:=1) #[] 0 rfl (by omega) (Nat.zero_le _) rfl,HU.out.1.alloc _,HU.out.2.1.alloc _,HU.out.2.2.alloc (by omega) _⟩
 case round =>
  obtain ⟨j,k',A',hj,rfl,rfl,rfl,rfl,hown,hx0,hp0,hbw⟩:=hrel
  have zw:=hbw.size
  have cell_x:=hx0.cell
  have lt_x:=hx0.lt
  by_cases hlt:j < gs.length
  ·obtain ⟨⟨k,x,y⟩,hx⟩:∃ s,gs[j]? = some s:=⟨_,List.getElem?_eq_getElem hlt⟩
   have hgv:=gatesB_at HV.out hx
   rw [Nat.zero_add] at hgv
   have hst:=ev_step (T:=ts) (C:=cs) (ls:=ls) hx
   have hct:=cnt_step hx
   obtain ⟨bG,og,rfl,hBg,d0,d1,d2⟩:=gt_cells HC.out.1 hbw hx
   have hxl:=evTo_length ts cs ls gs j
   have hlab:=evTo_labels (gs:=gs) HT.out HS.out HLL.out j
   obtain ⟨xs,hxs⟩:∃ c,evTo ts cs ls gs j=c:=⟨_,rfl⟩
   rw [hxs] at hown hst hxl hlab
   have hal:=(cnt_le gs j).1
   obtain ⟨a,hka⟩:∃ c,andG (gs.take j)=c:=⟨_,rfl⟩
   obtain ⟨b,hkb⟩:∃ c,conG (gs.take j)=c:=⟨_,rfl⟩
   have HLT:=hid (And.intro (fun x y (e:gs[j]? = some ⟨4,x,y⟩)=>cnt_lt4 e) (And.intro (fun x y (e:gs[j]? = some ⟨2,x,y⟩)=>cnt_lt2 e) hx))
   rw [hka,hkb] at hst hct HLT
   rw [hka] at hal ⊢
   rw [hkb]
   have hb9:b≤6000:=by have:=(cnt_le gs j).2; have:=cntG_le gs 2; omega
   have hlt':(j:Int) < (gs.length:Int):=by omega
   have hj6:(j:Int) < 6000:=by omega
   have j00:(0:Int)≤(j:Int):=by omega
   have hb1:j + 1≤1000000:=by omega
   have HLAB:=hid hlab
   have HI:=hid (And.intro hown (And.intro hx0 (And.intro hp0 hbw)))
   have HST:=hid hst
   have HCT:=hid hct
   clear hx hlab hxs hka hkb hown hp0 hx0 hbw hst hct
   have b_30:=(Below.refl wr.heap.size wr)
   have s_30:=b_30.size
   go_upto_region 9 with fail
   refine wp_forget1 (w0:=wr) (B:=wr.heap.size) (b0:=wr.heap.size) (t0:=96) (c0:=#[.int .i64 k,.int .i64 x,.int .i64 y]) ?_ ?_ ?_
   (focus exact blkcBy2)
   (focus (exact belBy))
   intro w31 q_31 hX31
   have sX31:=hX31.size
   have q_lt:=q_31.lt
   have b_31:=b_30.trans (hX31.mono (by omega))
   clear b_30 hX31
   have cell_q:=q_31.cell
   have froz_q:=q_31.frozen
   have lt_q:=q_31.lt
   have z31:=b_31.size
   have HI3:=hid (And.intro (own_below HI.out.1 b_31) (And.intro (HI.out.2.1.past b_31) (And.intro (HI.out.2.2.1.past b_31) (And.intro (HI.out.2.2.2.trans (b_31.mono zw)) q_31))))
   clear b_31 q_31 HI d0 d1 d2 cell_x lt_x
   rcases gate_kind hgv with hk | hk | hk | hk | hk
   ·obtain rfl:k=1:=hk
    have hab:=(gate_is1 hgv rfl).1
    dsimp only at hab
    obtain ⟨x,rfl⟩:=Int.eq_ofNat_of_zero_le hab.1
    have hzx:ls[x]? = some (ls.getD x 0):=by rw [List.getD_eq_getElem?_getD,List.getElem?_eq_getElem (by omega)]; rfl
    obtain ⟨bz,oz,rfl,hBz,hcz⟩:=Cells.at_ (HC.out.2.2.2.2.2.below HI3.out.2.2.2.1) (ints_get hzx)
    have fx:=hcz _ _ (ints_get hzx)
    have hxlt:(x:Int) < (ls.length:Int):=by omega
    have hx0:(0:Int)≤(x:Int):=by omega
    obtain ⟨zx,ex⟩:∃ z,ls.getD x 0=z:=⟨_,rfl⟩
    rw [ex] at fx
    have HE:=hid (HST.out.trans (show _=xs ++ [zx] by rw [←ex]; rfl))
    have HA:=hid (HCT.out.1.trans (show _=a from rfl))
    have HB:=hid (HCT.out.2.trans (show _=b from rfl))
    clear hcz hzx ex hgv hab
    go_upto_region 23 with fail
    refine wp_forget0 (w0:=w31) (B:=w31.heap.size) (by exact belBy) ?_
    intro w5 hb
    have z5:=hb.size
    have ho5:=own_below HI3.out.1 hb
    have HB5:=hid (And.intro (HI3.out.2.1.past hb) (And.intro (HI3.out.2.2.1.past hb) (HI3.out.2.2.2.1.trans (hb.mono (by omega)))))
    have hw5:=HB5.out.2.2.size
    clear hb HI3 cell_q froz_q lt_q fx hxlt hx0
    go_wp2_with (at_builtin; refine app_ints rfl _ _ rfl (base:=w.heap.size) (L:=xs) (v:=Value.slice A' j k') rfl (ho5.alloc _) (by simp; omega) [zx] rfl rfl (top_cells _ [_] _) hb1 ?_)
    intro A1 k1 w8 ho8 hg8 hl8
    have hlo:=own_in ho5
    have hgg:=grown_alloc hg8
    have HF:=hid (And.intro ho8 (And.intro (gr_blk hgg HB5.out.1 (own_ne_obj ho5 HB5.out.1 (by decide))) (And.intro (gr_blk hgg HB5.out.2.1 (own_ne_obj ho5 HB5.out.2.1 (by decide))) (gr_below hgg HB5.out.2.2 (by omega) (fun p hp=>by have:=(hlo p hp).1; omega)))))
    clear ho8 hg8 hl8 ho5 hlo hgg
    go_wp2
    go_roundw
    case rel=>exact ⟨j + 1,k1,A1,by omega,by go_num,by rw [HA.out],by rw [HB.out],rfl,by rw [HE.out]; exact HF.out.1,HF.out.2.1,HF.out.2.2.1,HF.out.2.2.2⟩
    case measure=>simp [intOf]; omega
   ·obtain rfl:k=2:=hk
    have hbl:=HLT.out.2.1 _ _ HLT.out.2.2
    have hzx:cs[b]? = some (cs.getD b 0):=by rw [List.getD_eq_getElem?_getD,List.getElem?_eq_getElem (by omega)]; rfl
    obtain ⟨bz,oz,rfl,hBz,hcz⟩:=Cells.at_ (HC.out.2.2.2.1.below HI3.out.2.2.2.1) (ints_get hzx)
    have fx:=hcz _ _ (ints_get hzx)
    have hxlt:(b:Int) < (cs.length:Int):=by omega
    have hx0:(0:Int)≤(b:Int):=by omega
    obtain ⟨zx,ex⟩:∃ z,cs.getD b 0=z:=⟨_,rfl⟩
    rw [ex] at fx
    have hp1:=HI3.out.2.2.1
    have cell_p:=hp1.cell
    have lt_p:=hp1.lt
    have HE:=hid (HST.out.trans (show _=xs ++ [zx] by rw [←ex]; rfl))
    have HA:=hid (HCT.out.1.trans (show _=a from rfl))
    have HB:=hid (HCT.out.2.trans (show _=b + 1 from rfl))
    clear hcz hzx ex hgv hbl hp1
    go_upto_region 23 with fail
    refine wp_forget0 (w0:=w31) (B:=w31.heap.size) (by exact belBy) ?_
    intro w5 hb
    have z5:=hb.size
    have ho5:=own_below HI3.out.1 hb
    have HB5:=hid (And.intro (HI3.out.2.1.past hb) (And.intro (HI3.out.2.2.1.past hb) (HI3.out.2.2.2.1.trans (hb.mono (by omega)))))
    have hw5:=HB5.out.2.2.size
    clear hb HI3 cell_q froz_q lt_q fx hxlt hx0 cell_p lt_p
    go_wp2_with (at_builtin; refine app_ints rfl _ _ rfl (base:=w.heap.size) (L:=xs) (v:=Value.slice A' j k') rfl (ho5.alloc _) (by simp; omega) [zx] rfl rfl (top_cells _ [_] _) hb1 ?_)
    intro A1 k1 w8 ho8 hg8 hl8
    have hlo:=own_in ho5
    have hgg:=grown_alloc hg8
    have HF:=hid (And.intro ho8 (And.intro (gr_blk hgg HB5.out.1 (own_ne_obj ho5 HB5.out.1 (by decide))) (And.intro (gr_blk hgg HB5.out.2.1 (own_ne_obj ho5 HB5.out.2.1 (by decide))) (gr_below hgg HB5.out.2.2 (by omega) (fun p hp=>by have:=(hlo p hp).1; omega)))))
    clear ho8 hg8 hl8 ho5 hlo hgg
    go_wp2
    go_roundw
    case rel=>exact ⟨j + 1,k1,A1,by omega,by go_num,by rw [HA.out],by rw [HB.out]; go_num,rfl,by rw [HE.out]; exact HF.out.1,HF.out.2.1,HF.out.2.2.1,HF.out.2.2.2⟩
    case measure=>simp [intOf]; omega
   ·obtain rfl:k=3:=hk
    have hab:=gate_is34 hgv (.inl rfl)
    dsimp only at hab
    obtain ⟨x,rfl⟩:=Int.eq_ofNat_of_zero_le hab.1.1
    obtain ⟨y,rfl⟩:=Int.eq_ofNat_of_zero_le hab.2.1
    have hzx:xs[x]? = some (xs.getD x 0):=by rw [List.getD_eq_getElem?_getD,List.getElem?_eq_getElem (by omega)]; rfl
    have hzy:xs[y]? = some (xs.getD y 0):=by rw [List.getD_eq_getElem?_getD,List.getElem?_eq_getElem (by omega)]; rfl
    obtain ⟨bz,oz,rfl,hBz,hcz⟩:=Cells.at_ (Cells.of_own HI3.out.1) (ints_get hzx)
    have fx:=hcz _ _ (ints_get hzx)
    have hlx:=getD_label HLAB.out x
    have hxlt:(x:Int) < (j:Int):=by omega
    have hx0:(0:Int)≤(x:Int):=by omega
    obtain ⟨zx,ex⟩:∃ z,xs.getD x 0=z:=⟨_,rfl⟩
    rw [ex] at fx hlx
    have fy:=hcz _ _ (ints_get hzy)
    have hly:=getD_label HLAB.out y
    have hylt:(y:Int) < (j:Int):=by omega
    have hy0:(0:Int)≤(y:Int):=by omega
    obtain ⟨zy,ey⟩:∃ z,xs.getD y 0=z:=⟨_,rfl⟩
    rw [ey] at fy hly
    clear hcz hzx hzy
    have q0:=cell_q 0
    have q1:=cell_q 1
    have q2:=cell_q 2
    dsimp at q0 q1 q2
    have HE:=hid (HST.out.trans (show _=xs ++ [xorI zx zy] by rw [←ex,←ey]; rfl))
    have HA:=hid (HCT.out.1.trans (show _=a from rfl))
    have HB:=hid (HCT.out.2.trans (show _=b from rfl))
    clear hgv hab ex ey
    go_upto_region 17 with fail
    go_quiet (fail)
    go_upto_region 23 with fail
    refine wp_forget0 (w0:=w31) (B:=w31.heap.size) (by exact belBy) ?_
    intro w5 hb
    have z5:=hb.size
    have ho5:=own_below HI3.out.1 hb
    have HB5:=hid (And.intro (HI3.out.2.1.past hb) (And.intro (HI3.out.2.2.1.past hb) (HI3.out.2.2.2.1.trans (hb.mono (by omega)))))
    have hw5:=HB5.out.2.2.size
    clear hb HI3 cell_q froz_q lt_q fx fy hlx hly hxlt hylt hx0 hy0 q0 q1 q2
    go_wp2_with (at_builtin; refine app_ints rfl _ _ rfl (base:=w.heap.size) (L:=xs) (v:=Value.slice (some ⟨bz,oz,none⟩) j k') rfl (ho5.alloc _) (by simp; omega) [xorI zx zy] rfl rfl (top_cells _ [_] _) hb1 ?_)
    intro A1 k1 w8 ho8 hg8 hl8
    have hlo:=own_in ho5
    have hgg:=grown_alloc hg8
    have HF:=hid (And.intro ho8 (And.intro (gr_blk hgg HB5.out.1 (own_ne_obj ho5 HB5.out.1 (by decide))) (And.intro (gr_blk hgg HB5.out.2.1 (own_ne_obj ho5 HB5.out.2.1 (by decide))) (gr_below hgg HB5.out.2.2 (by omega) (fun p hp=>by have:=(hlo p hp).1; omega)))))
    clear ho8 hg8 hl8 ho5 hlo hgg
    go_wp2
    go_roundw
    case rel=>exact ⟨j + 1,k1,A1,by omega,by go_num,by rw [HA.out],by rw [HB.out],rfl,by rw [HE.out]; exact HF.out.1,HF.out.2.1,HF.out.2.2.1,HF.out.2.2.2⟩
    case measure=>simp [intOf]; omega
   ·obtain rfl:k=4:=hk
    have hab:=gate_is34 hgv (.inr rfl)
    dsimp only at hab
    obtain ⟨x,rfl⟩:=Int.eq_ofNat_of_zero_le hab.1.1
    obtain ⟨y,rfl⟩:=Int.eq_ofNat_of_zero_le hab.2.1
    have hal4:=HLT.out.1 _ _ HLT.out.2.2
    have hzx:xs[x]? = some (xs.getD x 0):=by rw [List.getD_eq_getElem?_getD,List.getElem?_eq_getElem (by omega)]; rfl
    have hzy:xs[y]? = some (xs.getD y 0):=by rw [List.getD_eq_getElem?_getD,List.getElem?_eq_getElem (by omega)]; rfl
    obtain ⟨bz,oz,rfl,hBz,hcz⟩:=Cells.at_ (Cells.of_own HI3.out.1) (ints_get hzx)
    have fx:=hcz _ _ (ints_get hzx)
    have hlx:=getD_label HLAB.out x
    have hxlt:(x:Int) < (j:Int):=by omega
    have hx0:(0:Int)≤(x:Int):=by omega
    obtain ⟨zx,ex⟩:∃ z,xs.getD x 0=z:=⟨_,rfl⟩
    rw [ex] at fx hlx
    have fy:=hcz _ _ (ints_get hzy)
    have hly:=getD_label HLAB.out y
    have hylt:(y:Int) < (j:Int):=by omega
    have hy0:(0:Int)≤(y:Int):=by omega
    obtain ⟨zy,ey⟩:∃ z,xs.getD y 0=z:=⟨_,rfl⟩
    rw [ey] at fy hly
    clear hcz hzx hzy
    have ht0:ts[2 * a]? = some (ts.getD (2 * a) 0):=by rw [List.getD_eq_getElem?_getD,List.getElem?_eq_getElem (by omega)]; rfl
    have ht1:ts[2 * a + 1]? = some (ts.getD (2 * a + 1) 0):=by rw [List.getD_eq_getElem?_getD,List.getElem?_eq_getElem (by omega)]; rfl
    obtain ⟨bt,ot,rfl,hBt,hct⟩:=Cells.at_ (HC.out.2.2.1.below HI3.out.2.2.2.1) (ints_get ht0)
    have fg:=hct _ _ (ints_get ht0)
    have fe:=hct _ _ (ints_get ht1)
    have hlg:=getD_label HT.out (2 * a)
    have hle:=getD_label HT.out (2 * a + 1)
    obtain ⟨zg,eg⟩:∃ z,ts.getD (2 * a) 0=z:=⟨_,rfl⟩
    obtain ⟨ze,ee⟩:∃ z,ts.getD (2 * a + 1) 0=z:=⟨_,rfl⟩
    rw [eg] at fg hlg
    rw [ee] at fe hle
    have t0:(2 * (a:Int)).toNat=2 * a:=by omega
    have t1:(2 * (a:Int) + 1).toNat=2 * a + 1:=by omega
    have a00:(0:Int)≤(a:Int):=by omega
    have a6:(a:Int)≤6000:=by omega
    have b00:(0:Int)≤2 * (a:Int):=by omega
    have b01:(0:Int)≤2 * (a:Int) + 1:=by omega
    have b10:2 * (a:Int) < (ts.length:Int):=by omega
    have b11:2 * (a:Int) + 1 < (ts.length:Int):=by omega
    have KA:=hid (fun w=>iEvalAnd zx zy zg ze j w hlx hly hlg hle (by omega))
    have HE:=hid (HST.out.trans (show _=xs ++ [evA zx zy zg ze (j:Int)] by rw [←ex,←ey,←eg,←ee]; rfl))
    have HA:=hid (HCT.out.1.trans (show _=a + 1 from rfl))
    have HB:=hid (HCT.out.2.trans (show _=b from rfl))
    clear hgv hab ex ey eg ee hct ht0 ht1 hlx hly hlg hle hal4
    have q0:=cell_q 0
    dsimp at q0
    go_upto_region 21 with fail
    refine wp_forget0 (w0:=w31) (B:=w31.heap.size) (by exact belBy) ?_
    intro w32 hb32
    have z32:=hb32.size
    have HI4:=hid (And.intro (own_below HI3.out.1 hb32) (And.intro (HI3.out.2.1.past hb32) (And.intro (HI3.out.2.2.1.past hb32) (And.intro (HI3.out.2.2.2.1.trans (hb32.mono (by omega))) (HI3.out.2.2.2.2.past hb32)))))
    have HFX:=hid (And.intro ((hb32.cell (p:=⟨bz,oz + x,none⟩) (by dsimp only; omega)).trans fx) (And.intro ((hb32.cell (p:=⟨bz,oz + y,none⟩) (by dsimp only; omega)).trans fy) (And.intro ((hb32.cell (p:=⟨bt,ot + 2 * a,none⟩) (by dsimp only; omega)).trans fg) ((hb32.cell (p:=⟨bt,ot + (2 * a + 1),none⟩) (by dsimp only; omega)).trans fe))))
    clear fx fy fg fe q0 hb32 cell_q froz_q lt_q HI3
    have qq:=fun (x:Later w32) (o:Nat)=>(HI4.out.2.2.2.2.past x.below).cell o
    have qp:=fun (x:Later w32) (o:Nat)=>(HI4.out.2.2.1.past x.below).cell o
    have fx:=fun (X:Later w32)=>(X.below.cell (p:=⟨bz,oz + x,none⟩) (by dsimp only; omega)).trans HFX.out.1
    have fy:=fun (X:Later w32)=>(X.below.cell (p:=⟨bz,oz + y,none⟩) (by dsimp only; omega)).trans HFX.out.2.1
    have fg:=fun (X:Later w32)=>(X.below.cell (p:=⟨bt,ot + 2 * a,none⟩) (by dsimp only; omega)).trans HFX.out.2.2.1
    have fe:=fun (X:Later w32)=>(X.below.cell (p:=⟨bt,ot + (2 * a + 1),none⟩) (by dsimp only; omega)).trans HFX.out.2.2.2
    refine wp_region_later (by kernel_rfl) (by kernel_rfl) ?_
    repeat (go_big_quiet_step ((go_at_call 111; with_reducible exact Calls.later (KA.out _))))
    refine wpQuiet_nil ?_
    rintro _ ⟨⟨w41,hb41⟩,rfl⟩
    try dsimp only
    have z41:=hb41.size
    clear qq qp fx fy fg fe HFX
    go_upto_region 23 with fail
    refine wp_forget0 (w0:=w32) (B:=w32.heap.size) (by exact belBy) ?_
    intro w5 hb
    have z5:=hb.size
    have ho5:=own_below HI4.out.1 hb
    have HB5:=hid (And.intro (HI4.out.2.1.past hb) (And.intro (HI4.out.2.2.1.past hb) (HI4.out.2.2.2.1.trans (hb.mono (by omega)))))
    have hw5:=HB5.out.2.2.size
    clear hb HI4 hxlt hylt hx0 hy0
    go_wp2_with (at_builtin; refine app_ints rfl _ _ rfl (base:=w.heap.size) (L:=xs) (v:=Value.slice (some ⟨bz,oz,none⟩) j k') rfl (ho5.alloc _) (by simp; omega) [evA zx zy zg ze (j:Int)] rfl rfl (top_cells _ [_] _) hb1 ?_)
    intro A1 k1 w8 ho8 hg8 hl8
    have hlo:=own_in ho5
    have hgg:=grown_alloc hg8
    have HF:=hid (And.intro ho8 (And.intro (gr_blk hgg HB5.out.1 (own_ne_obj ho5 HB5.out.1 (by decide))) (And.intro (gr_blk hgg HB5.out.2.1 (own_ne_obj ho5 HB5.out.2.1 (by decide))) (gr_below hgg HB5.out.2.2 (by omega) (fun p hp=>by have:=(hlo p hp).1; omega)))))
    clear ho8 hg8 hl8 ho5 hlo hgg
    go_wp2
    go_roundw
    case rel=>exact ⟨j + 1,k1,A1,by omega,by go_num,by rw [HA.out]; go_num,by rw [HB.out],rfl,by rw [HE.out]; exact HF.out.1,HF.out.2.1,HF.out.2.2.1,HF.out.2.2.2⟩
    case measure=>simp [intOf]; omega
   ·obtain rfl:k=5:=hk
    have hab:=(gate_is5 hgv rfl).1
    dsimp only at hab
    obtain ⟨x,rfl⟩:=Int.eq_ofNat_of_zero_le hab.1
    have hzx:xs[x]? = some (xs.getD x 0):=by rw [List.getD_eq_getElem?_getD,List.getElem?_eq_getElem (by omega)]; rfl
    obtain ⟨bz,oz,rfl,hBz,hcz⟩:=Cells.at_ (Cells.of_own HI3.out.1) (ints_get hzx)
    have fx:=hcz _ _ (ints_get hzx)
    have hlx:=getD_label HLAB.out x
    have hxlt:(x:Int) < (j:Int):=by omega
    have hx0:(0:Int)≤(x:Int):=by omega
    obtain ⟨zx,ex⟩:∃ z,xs.getD x 0=z:=⟨_,rfl⟩
    rw [ex] at fx hlx
    clear hcz hzx
    have HE:=hid (HST.out.trans (show _=xs ++ [zx] by rw [←ex]; rfl))
    have HA:=hid (HCT.out.1.trans (show _=a from rfl))
    have HB:=hid (HCT.out.2.trans (show _=b from rfl))
    clear hgv hab ex
    go_upto_region 23 with fail
    refine wp_forget0 (w0:=w31) (B:=w31.heap.size) (by exact belBy) ?_
    intro w5 hb
    have z5:=hb.size
    have ho5:=own_below HI3.out.1 hb
    have HB5:=hid (And.intro (HI3.out.2.1.past hb) (And.intro (HI3.out.2.2.1.past hb) (HI3.out.2.2.2.1.trans (hb.mono (by omega)))))
    have hw5:=HB5.out.2.2.size
    clear hb HI3 cell_q froz_q lt_q fx hlx hxlt hx0
    go_wp2_with (at_builtin; refine app_ints rfl _ _ rfl (base:=w.heap.size) (L:=xs) (v:=Value.slice (some ⟨bz,oz,none⟩) j k') rfl (ho5.alloc _) (by simp; omega) [zx] rfl rfl (top_cells _ [_] _) hb1 ?_)
    intro A1 k1 w8 ho8 hg8 hl8
    have hlo:=own_in ho5
    have hgg:=grown_alloc hg8
    have HF:=hid (And.intro ho8 (And.intro (gr_blk hgg HB5.out.1 (own_ne_obj ho5 HB5.out.1 (by decide))) (And.intro (gr_blk hgg HB5.out.2.1 (own_ne_obj ho5 HB5.out.2.1 (by decide))) (gr_below hgg HB5.out.2.2 (by omega) (fun p hp=>by have:=(hlo p hp).1; omega)))))
    clear ho8 hg8 hl8 ho5 hlo hgg
    go_wp2
    go_roundw
    case rel=>exact ⟨j + 1,k1,A1,by omega,by go_num,by rw [HA.out],by rw [HB.out],rfl,by rw [HE.out]; exact HF.out.1,HF.out.2.1,HF.out.2.2.1,HF.out.2.2.2⟩
    case measure=>simp [intOf]; omega
  ·obtain rfl:j=gs.length:=by omega
   have HI:=hid (And.intro hown hbw)
   clear hown hbw hp0 hx0
   go_wp2
   ((try simp only [Exit.inBlock,Exit.then]); apply bodyPost_ret0; focus ((try simp only [results,Tryz.results52]); (try go_simp); (try rfl)))
   exact ⟨A',k',rfl,HI.out.1,HI.out.2⟩
end Go.Proofs.YtihbaieiempjeaaGreat
