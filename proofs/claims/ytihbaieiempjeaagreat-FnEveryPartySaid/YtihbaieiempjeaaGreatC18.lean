/- Lemmas of the proof: PubI, RunRa, RunRb, RunRc, RunRd. -/
import Derived.Test.YtihbaieiempjeaaGreatC0
import Derived.Test.YtihbaieiempjeaaGreatC17
import Derived.Test.YtihbaieiempjeaaGreatC7
import Derived.Test.YtihbaieiempjeaaGreatC5
import Derived.Test.YtihbaieiempjeaaGreatC2
namespace Go.Proofs.YtihbaieiempjeaaGreat
open Go.RowKit
theorem grow_lit1i {P:Program} {t e base:Nat} {w:World} {o:Oper} {a:Act} {x:Operand} {v:Value} (ho:o.op=Op.buildSlice t 1 #[(0,x)]) (hv:a.eval x=v)
  (hr:∀ w:World,(Instr.buildSlice t 1 #[(0,v)]).run P w=.ok (.slice (some ⟨w.heap.size,0,none⟩) 1 1) (w.alloc (.cells #[v] e))) (hb:base≤w.heap.size) :
  growUpon P Grows (RowOf base e 1 1 [v]) w ((execOp a.eval o).run P w):=by
 simp [execOp,ho,growUpon,hr,hv,Result.andThen]
 exact ⟨(Below.refl _ _).alloc (Nat.le_refl _) _,_,_,rfl,own_lit #[v] 1 rfl hb (by decide) rfl⟩
theorem litInt (b:Int) (w:World):(Instr.buildSlice 30 1 #[(0,.int .i64 b)]).run Tryz.prog w=.ok (.slice (some ⟨w.heap.size,0,none⟩) 1 1) (w.alloc (.cells #[.int .i64 b] 3)):=by
 simp [go_sem]
theorem con_step {d:Int} {zs:List Int} {gs:List Gt} {j:Nat} {g:Gt} (h:gs[j]? = some g):conTo d zs gs (j + 1)=conTo d zs gs j ++ conP d zs j g:=by
 rw [conTo,List.getD_eq_getElem?_getD,h]
 rfl
theorem conTo_len (d:Int) (zs:List Int) (gs:List Gt):∀ j,(conTo d zs gs j).length≤j
 | 0=>Nat.le_refl _
 | j + 1=>by
  have h:=conTo_len d zs gs j
  rw [conTo,List.length_append]
  unfold conP
  split <;> simp <;> omega
theorem dec_step {zs os:List Int} {i:Nat} {x:Int} (h:os[i]? = some x):decL zs (os.take (i + 1))=decL zs (os.take i) ++ [oneI (zs.getD x.toNat 0)]:=by
 unfold decL
 rw [take_snoc h,List.map_append]
 rfl
set_option linter.unusedVariables false in
set_option maxRecDepth 100000 in
set_option maxHeartbeats 6400000 in
theorem iPublicOf (G O Z T:Option Addr) (cg co cz ct:Nat) (gs:List Gt) (os:List Int) (d:Int) (zs ts:List Int) (w:World) (hg:Cells w w.heap.size G (ints (flatG gs))) (ho:Cells w w.heap.size O (ints os)) (hz:Cells w w.heap.size Z (ints zs)) (ht:w.ownsRow 0 3 1 (.slice T ts.length ct) ts.length (ints ts)) (h:GarOk gs os d zs ts) :
  Calls Tryz.prog 51 #[.agg #[.slice G gs.length cg,.slice O os.length co],.agg #[.int .i64 d,.slice Z zs.length cz,.slice T ts.length ct]] w (GivesP w ts (conTo d zs gs gs.length) (decL zs os)):=by
 obtain ⟨hn6,hgv,hov⟩:=circ_parts h.c
 have HG:=hid hg
 have HO:=hid ho
 have HZ:=hid hz
 have HT:=hid ht
 have HK:=hid (fun w hg ho hz ht=>iGarbledOk G O Z T cg co cz ct gs os d zs ts w hg ho hz ht h)
 have hcn:=cntG_le gs 4
 have htn:=h.tn
 have hzn:=Nat.le_of_eq h.zn.symm
 have hm:=h.m
 have hdl:=h.dl
 have HV:=hid hgv
 have HW:=hid hov
 have HL:=hid h.z
 have ht6:ts.length≤12000:=by omega
 clear hg ho hz h hgv hov hcn htn
 go_enter Tryz.func51,Tryz.ntmps51
 have b_0:=(Below.refl w.heap.size w)
 have s_0:=b_0.size
 have to_in:=own_in ht
 have to_0:=ht
 clear ht
 go_upto_region 1 with fail
 refine wp_forget3 (w0:=w) (B:=w.heap.size) (b0:=w.heap.size) (t0:=40) (c0:=#[.slice G gs.length cg,.slice O os.length co]) (b1:=w.heap.size + 1) (t1:=76) (c1:=#[.int .i64 d,.slice Z zs.length cz,.slice T ts.length ct]) (b2:=w.heap.size + 2) (t2:=80) (c2:=#[.slice none 0 0,.slice none 0 0,.slice none 0 0]) ?_ ?_ ?_ ?_ ?_
 (focus exact blkcBy2)
 (focus exact blkcBy2)
 (focus exact blkcBy2)
 (focus (exact belBy))
 intro w1 x_1 g_1 r_1 hX1
 have sX1:=hX1.size
 have x_lt:=x_1.lt
 have g_lt:=g_1.lt
 have r_lt:=r_1.lt
 have b_1:=b_0.trans (hX1.mono (by omega))
 have to_1:=own_below to_0 hX1
 clear to_0 b_0 hX1
 have cell_x:=x_1.cell
 have froz_x:=x_1.frozen
 have lt_x:=x_1.lt
 have cell_g:=g_1.cell
 have froz_g:=g_1.frozen
 have lt_g:=g_1.lt
 have cell_r:=r_1.cell
 have froz_r:=r_1.frozen
 have lt_r:=r_1.lt
 go_wp2_with fail
 refine calls_forget0 (W:=w1) ?_ ?_
 (focus (exact belBy))
 intro X2 hX2
 have sX2:=hX2.size
 refine (HK.out _ ((HG.out.below (b_1.trans (hX2.mono (by omega)))).more (by omega)) ((HO.out.below (b_1.trans (hX2.mono (by omega)))).more (by omega)) ((HZ.out.below (b_1.trans (hX2.mono (by omega)))).more (by omega)) ((Cells.of_own HT.out |>.below (b_1.trans (hX2.mono (by omega)))).more (by omega))).mono ?_
 rintro e w2 ⟨rfl,hb2⟩
 have s2:=hb2.size
 have hT2:=hX2.trans (hb2.mono sX2)
 have b_2:=b_1.trans (hT2.mono (by omega))
 have to_2:=own_below to_1 hT2
 have x_2:=Blk.past hT2 x_1
 have g_2:=Blk.past hT2 g_1
 have r_2:=Blk.past hT2 r_1
 clear to_1 x_1 g_1 r_1 b_1 cell_x froz_x lt_x cell_g froz_g lt_g cell_r froz_r lt_r hX2 hT2 hb2
 have cell_x:=x_2.cell
 have froz_x:=x_2.frozen
 have lt_x:=x_2.lt
 have cell_g:=g_2.cell
 have froz_g:=g_2.frozen
 have lt_g:=g_2.lt
 have cell_r:=r_2.cell
 have froz_r:=r_2.frozen
 have lt_r:=r_2.lt
 go_wp2_with fail
 refine calls_forget0 (W:=w2) ?_ ?_
 (focus (exact belBy))
 intro X3 hX3
 have sX3:=hX3.size
 refine (iIntsO T ct ts.length ts _ (own_below to_2 hX3) (by omega)).mono ?_
 rintro e w3 ⟨A',c',rfl,ta_3,hb3⟩
 have s3:=hb3.size
 have hT3:=hX3.trans (hb3.mono sX3)
 have b_3:=b_2.trans (hT3.mono (by omega))
 have to_3:=own_below to_2 hT3
 have x_3:=Blk.past hT3 x_2
 have g_3:=Blk.past hT3 g_2
 have r_3:=Blk.past hT3 r_2
 have ta_in:=own_in ta_3
 clear to_2 x_2 g_2 r_2 b_2 cell_x froz_x lt_x cell_g froz_g lt_g cell_r froz_r lt_r hX3 hT3 hb3
 have cell_x:=x_3.cell
 have froz_x:=x_3.frozen
 have lt_x:=x_3.lt
 have cell_g:=g_3.cell
 have froz_g:=g_3.frozen
 have lt_g:=g_3.lt
 have cell_r:=r_3.cell
 have froz_r:=r_3.frozen
 have lt_r:=r_3.lt
 go_upto_region 4 with fail
 refine wp_forget1 (w0:=w3) (B:=w3.heap.size) (b0:=w3.heap.size) (t0:=80) (c0:=#[.slice A' ts.length c',.slice none 0 0,.slice none 0 0]) ?_ ?_ ?_
 (focus exact blkcBy2)
 (focus (exact belBy))
 intro w4 p_4 hX4
 have sX4:=hX4.size
 have p_lt:=p_4.lt
 have b_4:=b_3.trans (hX4.mono (by omega))
 have to_4:=own_below to_3 hX4
 have ta_4:=own_below ta_3 hX4
 have x_4:=Blk.past hX4 x_3
 have g_4:=Blk.past hX4 g_3
 have r_4:=Blk.past hX4 r_3
 clear to_3 ta_3 x_3 g_3 r_3 b_3 cell_x froz_x lt_x cell_g froz_g lt_g cell_r froz_r lt_r hX4
 have cell_x:=x_4.cell
 have froz_x:=x_4.frozen
 have lt_x:=x_4.lt
 have cell_g:=g_4.cell
 have froz_g:=g_4.frozen
 have lt_g:=g_4.lt
 have cell_r:=r_4.cell
 have froz_r:=r_4.frozen
 have lt_r:=r_4.lt
 have cell_p:=p_4.cell
 have froz_p:=p_4.frozen
 have lt_p:=p_4.lt
 obtain ⟨bp,hbp⟩:∃ n,w3.heap.size=n:=⟨_,rfl⟩
 rw [hbp] at p_4
 have H4:=hid (show PubM w w.heap.size (w.heap.size + 1) (w.heap.size + 2) bp #[.slice G gs.length cg,.slice O os.length co] #[.int .i64 d,.slice Z zs.length cz,.slice T ts.length ct] #[.slice none 0 0,.slice none 0 0,.slice none 0 0] ts [] [] A' c' none 0 none 0 w4 from
  ⟨x_4,g_4,r_4,p_4,own_weak ta_4 (by omega),own_none,own_none,(fun q _ hp=>by cases hp),(fun q _ hp=>by cases hp),(fun q hq=>by cases hq),b_4,by omega,by omega⟩)
 rw [hbp]
 clear x_4 g_4 r_4 p_4 ta_4 to_4 ta_in to_in b_4 froz_x cell_g froz_g lt_g cell_r froz_r lt_r cell_p froz_p lt_p hbp
 go_wp2_with fail
 clear cell_x lt_x
 go_loopw [7,8,23] (fun _ _ i wr=>∃ (j kk:Nat) (K:Option Addr),j≤gs.length∧i=.int .i64 (j:Int)∧PubM w w.heap.size (w.heap.size + 1) (w.heap.size + 2) bp #[.slice G gs.length cg,.slice O os.length co] #[.int .i64 d,.slice Z zs.length cz,.slice T ts.length ct] #[.slice none 0 0,.slice none 0 0,.slice none 0 0] ts (conTo d zs gs j) [] A' c' K kk none 0 wr) (fun _ _ i _=>gs.length - (intOf i).toNat)
 case atStart=>exact ⟨0,0,none,Nat.zero_le _,rfl,H4.out⟩
 case round =>
  clear H4
  obtain ⟨j,kk,K,hj,rfl,hI⟩:=hrel
  have hkl:=conTo_len d zs gs j
  by_cases hlt:j < gs.length
  ·obtain ⟨⟨k,x,y⟩,hx⟩:∃ s,gs[j]? = some s:=⟨_,List.getElem?_eq_getElem hlt⟩
   have hgv:=gatesB_at HV.out hx
   rw [Nat.zero_add] at hgv
   have hst:=con_step (d:=d) (zs:=zs) hx
   obtain ⟨bG,og,rfl,hBg,d0,d1,d2⟩:=gt_cells HG.out hI.bl hx
   obtain ⟨ks,hks⟩:∃ c,conTo d zs gs j=c:=⟨_,rfl⟩
   rw [hks] at hI hkl hst
   have hzx:zs[j]? = some (zs.getD j 0):=by rw [List.getD_eq_getElem?_getD,List.getElem?_eq_getElem (by omega)]; rfl
   unfold conP at hst
   dsimp only at hst
   have hbs:=hI.bl.size
   have hlt':(j:Int) < (gs.length:Int):=by omega
   have hlz':(j:Int) < (zs.length:Int):=by omega
   have j00:(0:Int)≤(j:Int):=by omega
   have hb1:ks.length + 1≤1000000:=by omega
   clear hx hks hkl
   have cell_x:=hI.c.cell
   have lt_x:=hI.c.lt
   have cell_g:=hI.g.cell
   have lt_g:=hI.g.lt
   have b_30:=(Below.refl wr.heap.size wr)
   have s_30:=b_30.size
   go_upto_region 7 with fail
   refine wp_forget1 (w0:=wr) (B:=wr.heap.size) (b0:=wr.heap.size) (t0:=96) (c0:=#[.int .i64 k,.int .i64 x,.int .i64 y]) ?_ ?_ ?_
   (focus exact blkcBy2)
   (focus (exact belBy))
   intro w31 q_31 hX31
   have sX31:=hX31.size
   have q_lt:=q_31.lt
   have b_31:=b_30.trans (hX31.mono (by omega))
   clear b_30 hX31
   have cell_q:=q_31.cell
   have froz_q:=q_31.frozen
   have lt_q:=q_31.lt
   have z31:=b_31.size
   have HI3:=hid (hI.below b_31)
   have c0:=cell_q 0
   have c1:=cell_q 1
   dsimp at c0 c1
   have HQ3:=hid q_31
   clear b_31 q_31 hI cell_x lt_x cell_g lt_g
   obtain ⟨bz,oz,rfl,hBz,hcz⟩:=Cells.at_ (HZ.out.below HI3.out.bl) (ints_get hzx)
   have fz:=hcz _ _ (ints_get hzx)
   have hlz:=HL.out _ (List.mem_of_getElem? hzx)
   obtain ⟨z,hzd⟩:∃ z,zs.getD j 0=z:=⟨_,rfl⟩
   rw [hzd] at fz hlz hst
   clear hcz hzx hzd
   by_cases hk:k=2
   ·subst hk
    have ha2:=(gate_is2 hgv rfl).1
    dsimp only at ha2
    have ha:=inB_iff.2 (show 0≤x∧x≤1 by omega)
    clear ha2
    have HS:=hid (hst.trans (show _=ks ++ [lblI z d x] from rfl))
    have HFZ:=hid fz
    clear hst hgv fz
    go_upto_region 8 with fail
    have qx:=fun (X:Later w31) (o:Nat)=>(HI3.out.c.past X.below).cell o
    have qg:=fun (X:Later w31) (o:Nat)=>(HI3.out.g.past X.below).cell o
    have qp:=fun (X:Later w31) (o:Nat)=>(HI3.out.p.past X.below).cell o
    have qq:=fun (X:Later w31) (o:Nat)=>(HQ3.out.past X.below).cell o
    have qz:=fun (X:Later w31)=>(X.below.cell (p:=⟨bz,oz + j,none⟩) (by dsimp only; omega)).trans HFZ.out
    refine wp_grow_tails (W:=w31) (spec:=specAt [(11,.con (.int .i64 (lblI z d x))),(12,.any (RowOf w31.heap.size 3 1 1 [.int .i64 (lblI z d x)]))]) 13 (by kernel_rfl) (by kernel_rfl) (Onward.mk' ((Below.refl _ _).drew)) (specAt_stab ?_) ?_
    ·intro p hp F hF
     simp only [List.mem_cons,List.not_mem_nil,or_false] at hp
     rcases hp with rfl | rfl
     all_goals first | (cases hF; done) | (injection hF with hF; subst hF; exact RowOf.stable)
    refine gList_quietK 11 ⟨rfl,rfl,rfl,rfl,rfl,rfl,rfl,rfl,rfl,rfl,rfl,rfl,rfl,rfl,rfl,rfl,rfl,rfl,rfl,rfl,rfl,rfl,trivial⟩ (by decide) ?_
    delta Onward
    dsimp only [List.take,List.drop]
    repeat (go_big_quiet_step (fail))
    refine wpQuiet_nil ?_
    refine gList_con (.int .i64 (lblI z d x)) rfl rfl (fun w' hC _=>?_) ?_
    ·obtain ⟨⟨w',hb⟩,rfl⟩:=hC
     exact grow_con (by simp [go_sem]) (iLabelFor z d x _ hlz hdl ha)
    simp only [Act.put,List.setIfInBounds_toArray,List.set_cons_succ,List.set_cons_zero]
    refine gList_any (RowOf w31.heap.size 3 1 1 [.int .i64 (lblI z d x)]) rfl rfl (fun w' hC hd=>?_) (fun vr=>?_)
    ·obtain ⟨⟨w',hb⟩,rfl⟩:=hC
     exact grow_lit1i rfl rfl (fun w=>litInt _ w) hb.size
    unfold gList
    intro w' hW hfs
    have hlast:RowOf w31.heap.size 3 1 1 [.int .i64 (lblI z d x)] vr w':=hfs 12
    obtain ⟨⟨w32,hb⟩,rfl⟩:=hW
    obtain ⟨A7,c7,rfl,h7⟩:=hlast
    obtain ⟨g7,rfl,_,_,_⟩:=own_at h7 (by omega)
    have s32:=hb.size
    have H7:=hid (row_cells (show Row _ g7 _ 1 1 c7 _ from own_weak h7 (Nat.zero_le _)))
    have HW:=hid (HI3.out.below hb)
    have hw32:=HW.out.bl.size
    clear qx qg qp qz hfs hb h7 HFZ qq
    dsimp only [List.drop]
    simp only [Act.put,List.setIfInBounds_toArray,List.set_cons_succ,List.set_cons_zero]
    have hko:=HW.out.k
    have hne1:=hid (own_ne_obj HW.out.k HW.out.p (by decide))
    go_wp2_with (at_builtin; refine app_ints rfl _ _ rfl (base:=w.heap.size) (L:=ks) (v:=Value.slice K ks.length kk) rfl hko (by omega) [lblI z d x] rfl rfl H7.out hb1 ?_)
    intro A1 k1 w8 ho8 hg8 hl8
    have kx8:=gr_blk hg8 HW.out.p hne1.out
    have cell_8:=kx8.cell
    have froz_8:=kx8.frozen
    have lt_8:=kx8.lt
    have HF:=hid (PubM.con HW.out (Below.refl _ _) ho8 hg8 (fun q hq=>(hl8 q hq).imp id (fun e=>by omega)))
    clear ho8 hg8 hl8 kx8 hko hne1
    go_wp2
    go_roundw
    case rel=>exact ⟨j + 1,k1,A1,by omega,by go_num,by rw [HS.out]; exact HF.out⟩
    case measure=>simp [intOf]; omega
   ·have HS:=hid (hst.trans (show _=ks by rw [if_neg (by simpa using hk),List.append_nil]))
    have hk':(k == 2)=false:=by simpa using hk
    clear hst hgv
    go_wp2
    go_roundw
    case rel=>exact ⟨j + 1,kk,K,by omega,by go_num,by rw [HS.out]; exact HI3.out⟩
    case measure=>simp [intOf]; omega
  ·obtain rfl:j=gs.length:=by omega
   obtain ⟨ks,hks⟩:∃ c,conTo d zs gs gs.length=c:=⟨_,rfl⟩
   rw [hks] at hI
   have HKS:=hid hks
   have H5:=hid hI
   clear hks
   have cell_x:=hI.c.cell
   have lt_x:=hI.c.lt
   clear hI hkl
   go_wp2_with fail
   clear cell_x lt_x
   go_loopw [10,50] (fun _ i wr=>∃ (j kd:Nat) (D:Option Addr),j≤os.length∧i=.int .i64 (j:Int)∧PubM w w.heap.size (w.heap.size + 1) (w.heap.size + 2) bp #[.slice G gs.length cg,.slice O os.length co] #[.int .i64 d,.slice Z zs.length cz,.slice T ts.length ct] #[.slice none 0 0,.slice none 0 0,.slice none 0 0] ts ks (decL zs (os.take j)) A' c' K kk D kd wr) (fun _ i _=>os.length - (intOf i).toNat)
   case atStart=>exact ⟨0,0,none,Nat.zero_le _,rfl,H5.out⟩
   case round =>
    clear H5
    obtain ⟨j,kd,D,hj,rfl,hI⟩:=hrel
    have cell_x:=hI.c.cell
    have lt_x:=hI.c.lt
    have hdl:(decL zs (os.take j)).length=j:=by unfold decL; simp; omega
    by_cases hlt2:j < os.length
    ·obtain ⟨x,hx⟩:∃ s,os[j]? = some s:=⟨_,List.getElem?_eq_getElem hlt2⟩
     have hxw:=wireB_iff.1 (outs_wire HW.out x (List.mem_of_getElem? hx))
     obtain ⟨x,rfl⟩:=Int.eq_ofNat_of_zero_le hxw.1
     have hst:=dec_step (zs:=zs) hx
     obtain ⟨bo,oo,rfl,hBo,hco⟩:=Cells.at_ (HO.out.below hI.bl) (ints_get hx)
     have d0:=hco _ _ (ints_get hx)
     have hzx:zs[x]? = some (zs.getD x 0):=by rw [List.getD_eq_getElem?_getD,List.getElem?_eq_getElem (by omega)]; rfl
     obtain ⟨bz,oz,rfl,hBz,hcz⟩:=Cells.at_ (HZ.out.below hI.bl) (ints_get hzx)
     have fz:=hcz _ _ (ints_get hzx)
     obtain ⟨z,hzd⟩:∃ z,zs.getD x 0=z:=⟨_,rfl⟩
     have hxn:((x:Nat):Int).toNat=x:=by omega
     rw [hxn,hzd] at hst
     rw [hzd] at fz
     obtain ⟨dd,hdd⟩:∃ c,decL zs (os.take j)=c:=⟨_,rfl⟩
     rw [hdd] at hI hst hdl
     have hbs:=hI.bl.size
     have hlt':(j:Int) < (os.length:Int):=by omega
     have hlz':(x:Int) < (zs.length:Int):=by omega
     have j00:(0:Int)≤(j:Int):=by omega
     have x00:(0:Int)≤(x:Int):=by omega
     have hb1:dd.length + 1≤1000000:=by omega
     have HST:=hid hst
     have HI:=hid hI
     have HFZ:=hid (And.intro fz d0)
     clear hcz hzx hzd hx hdd hst hI hco hxw hxn hdl fz
     go_upto_region 13 with fail
     clear d0
     have qx:=fun (X:Later wr) (o:Nat)=>(HI.out.c.past X.below).cell o
     have qg:=fun (X:Later wr) (o:Nat)=>(HI.out.g.past X.below).cell o
     have qp:=fun (X:Later wr) (o:Nat)=>(HI.out.p.past X.below).cell o
     have qz:=fun (X:Later wr)=>(X.below.cell (p:=⟨bz,oz + x,none⟩) (by dsimp only; omega)).trans HFZ.out.1
     have q0:=fun (X:Later wr)=>(X.below.cell (p:=⟨bo,oo + j,none⟩) (by dsimp only; omega)).trans HFZ.out.2
     refine wp_grow_tails (W:=wr) (spec:=specAt [(8,.any (RowOf wr.heap.size 3 1 1 [.int .i64 (bits .and .i64 z 1)]))]) 9 (by kernel_rfl) (by kernel_rfl) (Onward.mk' ((Below.refl _ _).drew)) (specAt_stab ?_) ?_
     ·intro p hp F hF
      simp only [List.mem_cons,List.not_mem_nil,or_false] at hp
      rcases hp with rfl
      all_goals first | (cases hF; done) | (injection hF with hF; subst hF; exact RowOf.stable)
     refine gList_quietK 8 ⟨rfl,rfl,rfl,rfl,rfl,rfl,rfl,rfl,rfl,rfl,rfl,rfl,rfl,rfl,rfl,rfl,trivial⟩ (by decide) ?_
     delta Onward
     dsimp only [List.take,List.drop]
     repeat (go_big_quiet_step (fail))
     refine wpQuiet_nil ?_
     refine gList_any (RowOf wr.heap.size 3 1 1 [.int .i64 (bits .and .i64 z 1)]) rfl rfl (fun w' hC hd=>?_) (fun vr=>?_)
     ·obtain ⟨⟨w',hb⟩,rfl⟩:=hC
      exact grow_lit1i rfl rfl (fun w=>litInt _ w) hb.size
     unfold gList
     intro w' hW hfs
     have hlast:RowOf wr.heap.size 3 1 1 [.int .i64 (bits .and .i64 z 1)] vr w':=hfs 8
     obtain ⟨⟨w32,hb⟩,rfl⟩:=hW
     obtain ⟨A7,c7,rfl,h7⟩:=hlast
     obtain ⟨g7,rfl,_,_,_⟩:=own_at h7 (by omega)
     have s32:=hb.size
     have H7:=hid (row_cells (show Row _ g7 _ 1 1 c7 _ from own_weak h7 (Nat.zero_le _)))
     have HX:=hid (HI.out.below hb)
     have hw32:=HX.out.bl.size
     clear qx qg qp qz q0 hfs hb h7 HFZ
     dsimp only [List.drop]
     simp only [Act.put,List.setIfInBounds_toArray,List.set_cons_succ,List.set_cons_zero]
     have hko:=HX.out.d
     have hne1:=hid (own_ne_obj HX.out.d HX.out.p (by decide))
     go_wp2_with (at_builtin; refine app_ints rfl _ _ rfl (base:=w.heap.size) (L:=dd) (v:=Value.slice D dd.length kd) rfl hko (by omega) [bits .and .i64 z 1] rfl rfl H7.out hb1 ?_)
     intro A1 k1 w8 ho8 hg8 hl8
     have kx8:=gr_blk hg8 HX.out.p hne1.out
     have cell_8:=kx8.cell
     have froz_8:=kx8.frozen
     have lt_8:=kx8.lt
     have HF:=hid (PubM.dec HX.out (Below.refl _ _) ho8 hg8 (fun q hq=>(hl8 q hq).imp id (fun e=>by omega)))
     clear ho8 hg8 hl8 kx8 hko hne1 cell_x lt_x
     go_wp2
     go_roundw
     case rel=>exact ⟨j + 1,k1,A1,by omega,by go_num,by rw [HST.out]; exact HF.out⟩
     case measure=>simp [intOf]; omega
    ·obtain rfl:j=os.length:=by omega
     rw [List.take_length] at hI hdl
     have hbk:=hI.p
     have cell_p:=hbk.cell
     have froz_p:=hbk.frozen
     have lt_p:=hbk.lt
     have cell_r:=hI.r.cell
     have froz_r:=hI.r.frozen
     have lt_r:=hI.r.lt
     have hne:bp≠w.heap.size + 2:=hI.hr.symm
     have hne2:w.heap.size + 2≠bp:=hI.hr
     have HI:=hid hI
     clear hI hbk hdl
     go_wp2
     ((try simp only [Exit.inBlock,Exit.then]); apply bodyPost_ret0; focus ((try simp only [results,Tryz.results51]); (try go_simp); (try rfl)))
     have hks:=HKS.out
     subst hks
     exact HI.out.give (by exact tchBy) (by omega)
open Go.RowKit
theorem ints_set (xs:List Int) (i:Nat) (v:Int):(ints xs).set i (.int .i64 v)=ints (xs.set i v):=by
 unfold ints
 rw [List.map_set]
theorem nb_at {xs:List Int} (h:nbB xs=true) {i:Nat} {v:Int} (hi:xs[i]? = some v):inB v 0 15=true:=List.all_eq_true.1 h v (List.mem_of_getElem? hi)
theorem nb_set {xs:List Int} {i:Nat} {v:Int} (h:nbB xs=true) (hv:inB v 0 15=true):nbB (xs.set i v)=true:=by
 unfold nbB at *
 rw [List.all_eq_true] at *
 intro x hx
 rcases List.mem_or_eq_of_mem_set hx with h1 | h1
 ·exact h x h1
 ·rw [h1]; exact hv
theorem nb_app {xs:List Int} {v:Int} (h:nbB xs=true) (hv:inB v 0 15=true):nbB (xs ++ [v])=true:=by
 unfold nbB at *
 rw [List.all_append,h]
 simp [hv]
structure StM (w:World) (X Y:Array Value) (rs os:List Int) (R O:Option Addr) (cr co:Nat) (bz n:Nat) (wr:World):Prop where
 x:Blk wr w.heap.size TSa X
 y:Blk wr (w.heap.size + 1) 73 Y
 r:Blk wr (w.heap.size + 2) TSa #[.slice none 0 0,.slice none 0 0]
 z:Blk wr bz TSa #[.slice R 8 cr,.slice O n co]
 p:wr.ownsRow (w.heap.size + 3) 3 1 (.slice R 8 cr) 8 (ints rs)
 q:wr.ownsRow (w.heap.size + 3) 3 1 (.slice O n co) n (ints os)
 ne:∀ q p,(Value.slice R 8 cr).ownBlock=some q→(Value.slice O n co).ownBlock=some p→q≠p
 b:Below w.heap.size w wr
 lz:w.heap.size + 3≤bz
section
variable {w:World} {X Y:Array Value} {rs os:List Int} {R O:Option Addr} {cr co bz n:Nat} {wr w':World}
theorem StM.below (h:StM w X Y rs os R O cr co bz n wr) (hb:Below wr.heap.size wr w'):StM w X Y rs os R O cr co bz n w' :=
 ⟨h.x.past hb,h.y.past hb,h.r.past hb,h.z.past hb,own_below h.p hb,own_below h.q hb,h.ne,h.b.trans (hb.mono h.b.size),h.lz⟩
theorem StM.reg {g i:Nat} {v:Int} (h:StM w X Y rs os (some ⟨g,0,none⟩) O cr co bz n wr):StM w X Y (rs.set i v) os (some ⟨g,0,none⟩) O cr co bz n (wr.setCell ⟨g,i,none⟩ (.int .i64 v)):=by
 obtain ⟨h1,h2⟩:=h.p.stored i (.int .i64 v)
 rw [ints_set] at h1
 have hlo:=(own_in h.p g rfl).1
 exact ⟨gr_blk h2 h.x (own_ne_obj h.p h.x (by decide)),gr_blk h2 h.y (own_ne_obj h.p h.y (by decide)),gr_blk h2 h.r (own_ne_obj h.p h.r (by decide)),gr_blk h2 h.z (own_ne_obj h.p h.z (by decide)),h1,gr_own h2 h.q (fun a b ha hb=>h.ne a b ha hb),h.ne,gr_below h2 h.b h.b.size (fun a ha=>by have:=(own_in h.p a ha).1; omega),h.lz⟩
theorem StM.out {v:Int} {A:Option Addr} {k:Nat} {w5:World} (h:StM w X Y rs os R O cr co bz n wr) (h1:w5.ownsRow (w.heap.size + 3) 3 1 (.slice A (n + 1) k) (n + 1) (ints (os ++ [v]))) (h2:wr.grownBy w5 (Value.slice O n co).ownBlock)
  (h3:∀ q,(Value.slice A (n + 1) k).ownBlock=some q→(Value.slice O n co).ownBlock=some q∨wr.heap.size≤q):StM w X Y rs (os ++ [v]) R A cr k bz (n + 1) (w5.setCell ⟨bz,1,none⟩ (.slice A (n + 1) k)):=by
 have hlz:=h.lz
 have x5:=gr_blk h2 h.x (own_ne_obj h.q h.x (by decide))
 have y5:=gr_blk h2 h.y (own_ne_obj h.q h.y (by decide))
 have r5:=gr_blk h2 h.r (own_ne_obj h.q h.r (by decide))
 have z5:=gr_blk h2 h.z (own_ne_obj h.q h.z (by decide))
 have p5:=gr_own h2 h.p (fun a b ha hb e=>h.ne b a hb ha e.symm)
 have b5:=gr_below h2 h.b h.b.size (fun a ha=>by have:=(own_in h.q a ha).1; omega)
 have ts:Touch [bz] w5 (w5.setCell ⟨bz,1,none⟩ (.slice A (n + 1) k)):=(Touch.refl _ _).set_ _ _ (by simp)
 have hm:∀ q,q≠bz→q ∉ [bz]:=fun q hq=>by simp [hq]
 refine ⟨Blk.touch ts x5 (hm _ (by omega)),Blk.touch ts y5 (hm _ (by omega)),Blk.touch ts r5 (hm _ (by omega)),z5.set_ 1 _,own_touch' ts p5 (fun q hq=>hm q (own_ne_obj p5 z5 (by decide) q hq)),own_touch' ts h1 (fun q hq=>hm q (own_ne_obj h1 z5 (by decide) q hq)),?_,ts.below' b5 (fun i hi=>by simp at hi; omega) b5.size,hlz⟩
 have h0:=h
 intro q p hq hp e
 rcases h3 p hp with h | h'
 ·exact h0.ne q p hq h e
 ·have:=(own_in h0.p q hq).2
  omega
end
open Go.RowKit
set_option linter.unusedVariables false in
set_option maxRecDepth 100000 in
set_option maxHeartbeats 6400000 in
theorem sStepSt1 (R0 O0:Option Addr) (c0 o0:Nat) (rs os:List Int) (Ai:Option Addr) (ci:Nat) (ls:List In1) (s:St) (w:World) (hr:w.ownsRow 0 3 1 (.slice R0 8 c0) 8 (ints rs)) (ho:w.ownsRow 0 3 1 (.slice O0 os.length o0) os.length (ints os)) (hci:Cells w w.heap.size Ai (insW ls)) (hi:InsW w w.heap.size ls) (hm:ls.length + totL ls≤1000000000) (hib:insB (insN ls)=true)
  (h8:rs.length=8) (h1:nbB rs=true) (h2:nbB os=true) (hn:os.length≤900000) (hs:stmtB s=true) (h12:s.o≠12) (h13:s.o≠13) (hk:Hid (s.o=1)) :
  Calls Tryz.prog 44 #[.agg #[.slice R0 8 c0,.slice O0 os.length o0],.agg #[.int .i64 s.o,.int .i64 s.d,.int .i64 s.a,.int .i64 s.b,.int .i64 s.c,.int .i64 s.n],.slice Ai ls.length ci] w fun e w'=>(nbB (runS (insN ls) ⟨rs,os⟩ s).r=true∧nbB (runS (insN ls) ⟨rs,os⟩ s).o=true∧(runS (insN ls) ⟨rs,os⟩ s).r.length=8∧(runS (insN ls) ⟨rs,os⟩ s).o.length≤os.length + 1) ∧
   ∃ v,e=.returned v∧StOf w.heap.size (runS (insN ls) ⟨rs,os⟩ s).o.length (runS (insN ls) ⟨rs,os⟩ s).r (runS (insN ls) ⟨rs,os⟩ s).o v w'∧Below w.heap.size w w':=by
 have hin:=stmt_in hs
 obtain ⟨o,d,a,b,c,n⟩:=s
 dsimp only at *
 have HSO:=hid (fun w=>sStmtOk o d a b c n w)
 rw [hs] at HSO
 have HOK:=hid (fun w hr ho=>sStateOk R0 O0 c0 o0 rs os w hr ho h8 h1 h2 (by omega))
 have HIO:=hid (fun w' (h:Below w.heap.size w w')=>sInsOk Ai ci ls w' ((hci.below h).more h.size) ((hi.below h (Nat.le_refl _)).more h.size) (by omega) (fun q hq=>by have:=totL_mem hq; omega))
 rw [hib] at HIO
 have HCP:=hid (fun (R O:Option Addr) cr co n (rs os:List Int) w (h1:w.ownsRow 0 3 1 (.slice R 8 cr) 8 (ints rs)) (h2:w.ownsRow 0 3 1 (.slice O n co) n (ints os)) hn=>sCopyS R O cr co n rs os w h1 h2 hn)
 have HR0:=hid hr
 have HO0:=hid ho
 have HIN:=hid (And.intro hci (And.intro hi hib))
 have HN1:=hid h1
 have HN2:=hid h2
 have H8:=hid h8
 have hg11:decide ((11:Int) < o)=false:=by simp; omega
 have HINP:=hid (fun (h2:o=2)=>(show a≤4∧n≤3 from (stmt_plain hs (by dsimp only; omega) h12 h13).inp h2))
 clear hci hi hm hib h1 h2 hs h8
 go_enter Tryz.func44,Tryz.ntmps44
 have b_0:=(Below.refl w.heap.size w)
 have s_0:=b_0.size
 have og_in:=own_in hr
 have og_0:=hr
 clear hr
 have oo_in:=own_in ho
 have oo_0:=ho
 clear ho
 go_upto_region 1 with fail
 refine wp_forget3 (w0:=w) (B:=w.heap.size) (b0:=w.heap.size) (t0:=69) (c0:=#[.slice R0 8 c0,.slice O0 os.length o0]) (b1:=w.heap.size + 1) (t1:=73) (c1:=#[.int .i64 o,.int .i64 d,.int .i64 a,.int .i64 b,.int .i64 c,.int .i64 n]) (b2:=w.heap.size + 2) (t2:=69) (c2:=#[.slice none 0 0,.slice none 0 0]) ?_ ?_ ?_ ?_ ?_
 (focus exact blkcBy2)
 (focus exact blkcBy2)
 (focus exact blkcBy2)
 (focus (exact belBy))
 intro w1 x_1 y_1 r_1 hX1
 have sX1:=hX1.size
 have x_lt:=x_1.lt
 have y_lt:=y_1.lt
 have r_lt:=r_1.lt
 have b_1:=b_0.trans (hX1.mono (by omega))
 have og_1:=own_below og_0 hX1
 have oo_1:=own_below oo_0 hX1
 clear og_0 oo_0 b_0 hX1
 have cell_x:=x_1.cell
 have froz_x:=x_1.frozen
 have lt_x:=x_1.lt
 have cell_y:=y_1.cell
 have froz_y:=y_1.frozen
 have lt_y:=y_1.lt
 have cell_r:=r_1.cell
 have froz_r:=r_1.frozen
 have lt_r:=r_1.lt
 have H1:=hid (And.intro x_1 (And.intro y_1 (And.intro r_1 b_1)))
 have z1:=b_1.size
 have lt_r1:=r_1.lt
 go_wp2_with fail
 refine calls_forget0 (W:=w1) ?_ ?_
 (focus (exact belBy))
 intro X2 hX2
 have sX2:=hX2.size
 refine (HCP.out R0 O0 c0 o0 os.length rs os _ (own_below og_1 hX2) (own_below oo_1 hX2) (by omega)).mono ?_
 rintro e w2 ⟨v,rfl,⟨R,cr,O,co,rfl,hp,hq,hne⟩,hb2⟩
 have s2:=hb2.size
 have hT2:=hX2.trans (hb2.mono sX2)
 have H2:=hid (And.intro (H1.out.1.past hT2) (And.intro (H1.out.2.1.past hT2) (And.intro (H1.out.2.2.1.past hT2) (And.intro (own_weak (base':=w.heap.size + 3) hp (by omega)) (And.intro (own_weak (base':=w.heap.size + 3) hq (by omega)) (And.intro hne (H1.out.2.2.2.trans (hT2.mono z1))))))))
 clear hp hq hne hb2 hX2 hT2 H1 x_1 y_1 r_1 b_1 og_1 oo_1 og_in oo_in cell_x froz_x lt_x cell_y froz_y lt_y cell_r froz_r lt_r
 go_upto_region 2 with fail
 apply wp_forget1 (w0:=w2) (B:=w2.heap.size) (b0:=w2.heap.size) (t0:=TSa) (c0:=#[.slice R 8 cr,.slice O os.length co])
 focus exact blkcBy2
 focus (exact belBy)
 intro w3 z_3 hb3
 have s3:=hb3.size
 have H3:=hid (show StM w #[.slice R0 8 c0,.slice O0 os.length o0] #[.int .i64 o,.int .i64 d,.int .i64 a,.int .i64 b,.int .i64 c,.int .i64 n] rs os R O cr co w2.heap.size os.length w3 from
  ⟨H2.out.1.past hb3,H2.out.2.1.past hb3,H2.out.2.2.1.past hb3,z_3,own_below H2.out.2.2.2.1 hb3,own_below H2.out.2.2.2.2.1 hb3,H2.out.2.2.2.2.2.1,H2.out.2.2.2.2.2.2.trans (hb3.mono (by omega)),by omega⟩)
 obtain ⟨bz,hbz⟩:∃ n,w2.heap.size=n:=⟨_,rfl⟩
 rw [hbz] at H3 ⊢
 clear z_3 hb3 H2 hbz
 have z3:=H3.out.b.size
 have cell_x:=H3.out.x.cell
 have lt_x:=H3.out.x.lt
 have cell_y:=H3.out.y.cell
 have lt_y:=H3.out.y.lt
 go_wp2_with fail
 refine calls_forget0 (W:=w3) ?_ ?_
 (focus (exact belBy))
 intro X4 hX4
 have sX4:=hX4.size
 have hb4:=H3.out.b.trans (hX4.mono z3)
 refine (HOK.out _ (((Cells.of_own HR0.out).below hb4).more hb4.size) (((Cells.of_own HO0.out).below hb4).more hb4.size)).mono ?_
 rintro e w4 ⟨rfl,hb5⟩
 have s4:=hb5.size
 have H4:=hid (H3.out.below (hX4.trans (hb5.mono sX4)))
 clear cell_x lt_x cell_y lt_y hX4 hb4 hb5 H3
 have z4:=H4.out.b.size
 have cell_y:=H4.out.y.cell
 have lt_y:=H4.out.y.lt
 go_wp2_with fail
 refine calls_forget0 (W:=w4) ?_ ?_
 (focus (exact belBy))
 intro X5 hX5
 have sX5:=hX5.size
 refine (HSO.out _).mono ?_
 rintro e w5 ⟨rfl,hb5⟩
 have s5:=hb5.size
 have H5:=hid (H4.out.below (hX5.trans (hb5.mono sX5)))
 clear cell_y lt_y hX5 hb5 H4
 have z5:=H5.out.b.size
 have cell_y:=H5.out.y.cell
 have lt_y:=H5.out.y.lt
 go_wp2_with fail
 refine (HIO.out _ H5.out.b).mono ?_
 rintro e w' ⟨rfl,rfl⟩
 obtain ⟨d,rfl⟩:=Int.eq_ofNat_of_zero_le hin.2.1.1
 obtain ⟨a,rfl⟩:=Int.eq_ofNat_of_zero_le hin.2.2.1.1
 obtain ⟨b,rfl⟩:=Int.eq_ofNat_of_zero_le hin.2.2.2.1.1
 obtain ⟨c,rfl⟩:=Int.eq_ofNat_of_zero_le hin.2.2.2.2.1.1
 have hd8:(d:Int) < 8:=by omega
 have ha8:(a:Int) < 8:=by omega
 have hb8:(b:Int) < 8:=by omega
 have hc8:(c:Int) < 8:=by omega
 have d00:(0:Int)≤(d:Int):=by omega
 have a00:(0:Int)≤(a:Int):=by omega
 have b00:(0:Int)≤(b:Int):=by omega
 have c00:(0:Int)≤(c:Int):=by omega
 have hn15:=hin.2.2.2.2.2
 have hpl:=HINP.out
 have hget:∀ i,i < 8→rs[i]? = some (rs.getD i 0):=fun i hi=>by rw [List.getD_eq_getElem?_getD,List.getElem?_eq_getElem (by have:=H8.out; omega)]; rfl
 have HGET:=hid hget
 clear hget
 obtain ⟨g,rfl,hg3,hg4,_⟩:=own_at H5.out.p (by omega)
 have ho1:=hk.out
 subst ho1
 have HE:=hid (show runS (insN ls) ⟨rs,os⟩ ⟨1,(d:Int),(a:Int),(b:Int),(c:Int),n⟩=⟨rs.set d n,os⟩ from rfl)
 obtain ⟨u0,hu0⟩:∃ u,w5.cell? ⟨g,d,none⟩=some u:=by rw [H5.out.p.cellAt d (by omega)]; have:=H5.out.p.1; exact ⟨_,List.getElem?_eq_getElem (by omega)⟩
 have hfr:=H5.out.p.frozenAt d
 have cell_z:=H5.out.z.cell
 have lt_z:=H5.out.z.lt
 go_upto_region 16 with fail
 obtain ⟨w6,hw6⟩:∃ z,w5.setCell ⟨g,d,none⟩ (.int .i64 n)=z:=⟨_,rfl⟩
 have HK:=hid (H5.out.reg (i:=d) (v:=n))
 rw [hw6] at HK ⊢
 clear hw6 hu0 hfr cell_z lt_z cell_y lt_y
 have hz6:=HK.out.b.size
 have hr6:=HK.out.r.lt
 have cell_z:=HK.out.z.cell
 have lt_z:=HK.out.z.lt
 go_wp2_with fail
 refine calls_forget0 (W:=w6) ?_ ?_
 (focus (exact belBy))
 intro X7 hX7
 have sX7:=hX7.size
 refine (HCP.out _ _ _ _ _ (rs.set d n) (os) _ (own_weak (own_below HK.out.p hX7) (Nat.zero_le _)) (own_weak (own_below HK.out.q hX7) (Nat.zero_le _)) (by omega)).mono ?_
 rintro e w8 ⟨v8,rfl,⟨R8,c8,O8,k8,rfl,hp8,hq8,hne8⟩,hb8⟩
 have s8:=hb8.size
 have hT8:=hX7.trans (hb8.mono sX7)
 have r8:=HK.out.r.past hT8
 have HF:=hid (And.intro (own_weak (base':=w.heap.size + 3) hp8 (by omega)) (And.intro (own_weak (base':=w.heap.size + 3) hq8 (by omega)) (And.intro hne8 (HK.out.b.trans (hT8.mono hz6)))))
 have cell_r8:=r8.cell
 have froz_r8:=r8.frozen
 have lt_r8:=r8.lt
 clear hp8 hq8 hne8 hb8 hX7 hT8 r8 cell_z lt_z
 go_wp2
 ((try simp only [Exit.inBlock,Exit.then]); apply bodyPost_ret0; focus ((try simp only [results,Tryz.results44]); (try go_simp); (try rfl)))
 have h:=HF.out
 have hz8:=h.2.2.2.size
 rw [HE.out]
 dsimp only
 refine ⟨⟨nb_set HN1.out (inB_iff.2 hn15),HN2.out,by rw [List.length_set]; exact H8.out,Nat.le_succ _⟩,_,rfl,⟨R8,c8,O8,k8,by first | rfl | (rw [List.length_append]; rfl),?_,?_,?_⟩,?_⟩
 ·exact own_weak (own_touch' (L:=[w.heap.size + 2]) (w:=w8) (by exact tchBy) h.1 (fun q hq=>by have:=(own_in h.1 q hq).1; simp; omega)) (by omega)
 ·first | exact own_weak (own_touch' (L:=[w.heap.size + 2]) (w:=w8) (by exact tchBy) h.2.1 (fun q hq=>by have:=(own_in h.2.1 q hq).1; simp; omega)) (by omega) | (rw [List.length_append]; exact own_weak (own_touch' (L:=[w.heap.size + 2]) (w:=w8) (by exact tchBy) h.2.1 (fun q hq=>by have:=(own_in h.2.1 q hq).1; simp; omega)) (by omega))
 ·first | exact h.2.2.1 | (rw [List.length_append]; exact h.2.2.1)
 ·exact Touch.below' (L:=[w.heap.size + 2]) (w:=w8) (by exact tchBy) h.2.2.2 (fun i hi=>by simp at hi; omega) hz8
open Go.RowKit
set_option linter.unusedVariables false in
set_option maxRecDepth 100000 in
set_option maxHeartbeats 6400000 in
theorem sStepSt2 (R0 O0:Option Addr) (c0 o0:Nat) (rs os:List Int) (Ai:Option Addr) (ci:Nat) (ls:List In1) (s:St) (w:World) (hr:w.ownsRow 0 3 1 (.slice R0 8 c0) 8 (ints rs)) (ho:w.ownsRow 0 3 1 (.slice O0 os.length o0) os.length (ints os)) (hci:Cells w w.heap.size Ai (insW ls)) (hi:InsW w w.heap.size ls) (hm:ls.length + totL ls≤1000000000) (hib:insB (insN ls)=true)
  (h8:rs.length=8) (h1:nbB rs=true) (h2:nbB os=true) (hn:os.length≤900000) (hs:stmtB s=true) (h12:s.o≠12) (h13:s.o≠13) (hk:Hid (s.o=2)) :
  Calls Tryz.prog 44 #[.agg #[.slice R0 8 c0,.slice O0 os.length o0],.agg #[.int .i64 s.o,.int .i64 s.d,.int .i64 s.a,.int .i64 s.b,.int .i64 s.c,.int .i64 s.n],.slice Ai ls.length ci] w fun e w'=>(nbB (runS (insN ls) ⟨rs,os⟩ s).r=true∧nbB (runS (insN ls) ⟨rs,os⟩ s).o=true∧(runS (insN ls) ⟨rs,os⟩ s).r.length=8∧(runS (insN ls) ⟨rs,os⟩ s).o.length≤os.length + 1) ∧
   ∃ v,e=.returned v∧StOf w.heap.size (runS (insN ls) ⟨rs,os⟩ s).o.length (runS (insN ls) ⟨rs,os⟩ s).r (runS (insN ls) ⟨rs,os⟩ s).o v w'∧Below w.heap.size w w':=by
 have hin:=stmt_in hs
 obtain ⟨o,d,a,b,c,n⟩:=s
 dsimp only at *
 have HSO:=hid (fun w=>sStmtOk o d a b c n w)
 rw [hs] at HSO
 have HOK:=hid (fun w hr ho=>sStateOk R0 O0 c0 o0 rs os w hr ho h8 h1 h2 (by omega))
 have HIO:=hid (fun w' (h:Below w.heap.size w w')=>sInsOk Ai ci ls w' ((hci.below h).more h.size) ((hi.below h (Nat.le_refl _)).more h.size) (by omega) (fun q hq=>by have:=totL_mem hq; omega))
 rw [hib] at HIO
 have HCP:=hid (fun (R O:Option Addr) cr co n (rs os:List Int) w (h1:w.ownsRow 0 3 1 (.slice R 8 cr) 8 (ints rs)) (h2:w.ownsRow 0 3 1 (.slice O n co) n (ints os)) hn=>sCopyS R O cr co n rs os w h1 h2 hn)
 have HR0:=hid hr
 have HO0:=hid ho
 have HIN:=hid (And.intro hci (And.intro hi hib))
 have HN1:=hid h1
 have HN2:=hid h2
 have H8:=hid h8
 have hg11:decide ((11:Int) < o)=false:=by simp; omega
 have HINP:=hid (fun (h2:o=2)=>(show a≤4∧n≤3 from (stmt_plain hs (by dsimp only; omega) h12 h13).inp h2))
 clear hci hi hm hib h1 h2 hs h8
 go_enter Tryz.func44,Tryz.ntmps44
 have b_0:=(Below.refl w.heap.size w)
 have s_0:=b_0.size
 have og_in:=own_in hr
 have og_0:=hr
 clear hr
 have oo_in:=own_in ho
 have oo_0:=ho
 clear ho
 go_upto_region 1 with fail
 refine wp_forget3 (w0:=w) (B:=w.heap.size) (b0:=w.heap.size) (t0:=69) (c0:=#[.slice R0 8 c0,.slice O0 os.length o0]) (b1:=w.heap.size + 1) (t1:=73) (c1:=#[.int .i64 o,.int .i64 d,.int .i64 a,.int .i64 b,.int .i64 c,.int .i64 n]) (b2:=w.heap.size + 2) (t2:=69) (c2:=#[.slice none 0 0,.slice none 0 0]) ?_ ?_ ?_ ?_ ?_
 (focus exact blkcBy2)
 (focus exact blkcBy2)
 (focus exact blkcBy2)
 (focus (exact belBy))
 intro w1 x_1 y_1 r_1 hX1
 have sX1:=hX1.size
 have x_lt:=x_1.lt
 have y_lt:=y_1.lt
 have r_lt:=r_1.lt
 have b_1:=b_0.trans (hX1.mono (by omega))
 have og_1:=own_below og_0 hX1
 have oo_1:=own_below oo_0 hX1
 clear og_0 oo_0 b_0 hX1
 have cell_x:=x_1.cell
 have froz_x:=x_1.frozen
 have lt_x:=x_1.lt
 have cell_y:=y_1.cell
 have froz_y:=y_1.frozen
 have lt_y:=y_1.lt
 have cell_r:=r_1.cell
 have froz_r:=r_1.frozen
 have lt_r:=r_1.lt
 have H1:=hid (And.intro x_1 (And.intro y_1 (And.intro r_1 b_1)))
 have z1:=b_1.size
 have lt_r1:=r_1.lt
 go_wp2_with fail
 refine calls_forget0 (W:=w1) ?_ ?_
 (focus (exact belBy))
 intro X2 hX2
 have sX2:=hX2.size
 refine (HCP.out R0 O0 c0 o0 os.length rs os _ (own_below og_1 hX2) (own_below oo_1 hX2) (by omega)).mono ?_
 rintro e w2 ⟨v,rfl,⟨R,cr,O,co,rfl,hp,hq,hne⟩,hb2⟩
 have s2:=hb2.size
 have hT2:=hX2.trans (hb2.mono sX2)
 have H2:=hid (And.intro (H1.out.1.past hT2) (And.intro (H1.out.2.1.past hT2) (And.intro (H1.out.2.2.1.past hT2) (And.intro (own_weak (base':=w.heap.size + 3) hp (by omega)) (And.intro (own_weak (base':=w.heap.size + 3) hq (by omega)) (And.intro hne (H1.out.2.2.2.trans (hT2.mono z1))))))))
 clear hp hq hne hb2 hX2 hT2 H1 x_1 y_1 r_1 b_1 og_1 oo_1 og_in oo_in cell_x froz_x lt_x cell_y froz_y lt_y cell_r froz_r lt_r
 go_upto_region 2 with fail
 apply wp_forget1 (w0:=w2) (B:=w2.heap.size) (b0:=w2.heap.size) (t0:=TSa) (c0:=#[.slice R 8 cr,.slice O os.length co])
 focus exact blkcBy2
 focus (exact belBy)
 intro w3 z_3 hb3
 have s3:=hb3.size
 have H3:=hid (show StM w #[.slice R0 8 c0,.slice O0 os.length o0] #[.int .i64 o,.int .i64 d,.int .i64 a,.int .i64 b,.int .i64 c,.int .i64 n] rs os R O cr co w2.heap.size os.length w3 from
  ⟨H2.out.1.past hb3,H2.out.2.1.past hb3,H2.out.2.2.1.past hb3,z_3,own_below H2.out.2.2.2.1 hb3,own_below H2.out.2.2.2.2.1 hb3,H2.out.2.2.2.2.2.1,H2.out.2.2.2.2.2.2.trans (hb3.mono (by omega)),by omega⟩)
 obtain ⟨bz,hbz⟩:∃ n,w2.heap.size=n:=⟨_,rfl⟩
 rw [hbz] at H3 ⊢
 clear z_3 hb3 H2 hbz
 have z3:=H3.out.b.size
 have cell_x:=H3.out.x.cell
 have lt_x:=H3.out.x.lt
 have cell_y:=H3.out.y.cell
 have lt_y:=H3.out.y.lt
 go_wp2_with fail
 refine calls_forget0 (W:=w3) ?_ ?_
 (focus (exact belBy))
 intro X4 hX4
 have sX4:=hX4.size
 have hb4:=H3.out.b.trans (hX4.mono z3)
 refine (HOK.out _ (((Cells.of_own HR0.out).below hb4).more hb4.size) (((Cells.of_own HO0.out).below hb4).more hb4.size)).mono ?_
 rintro e w4 ⟨rfl,hb5⟩
 have s4:=hb5.size
 have H4:=hid (H3.out.below (hX4.trans (hb5.mono sX4)))
 clear cell_x lt_x cell_y lt_y hX4 hb4 hb5 H3
 have z4:=H4.out.b.size
 have cell_y:=H4.out.y.cell
 have lt_y:=H4.out.y.lt
 go_wp2_with fail
 refine calls_forget0 (W:=w4) ?_ ?_
 (focus (exact belBy))
 intro X5 hX5
 have sX5:=hX5.size
 refine (HSO.out _).mono ?_
 rintro e w5 ⟨rfl,hb5⟩
 have s5:=hb5.size
 have H5:=hid (H4.out.below (hX5.trans (hb5.mono sX5)))
 clear cell_y lt_y hX5 hb5 H4
 have z5:=H5.out.b.size
 have cell_y:=H5.out.y.cell
 have lt_y:=H5.out.y.lt
 go_wp2_with fail
 refine (HIO.out _ H5.out.b).mono ?_
 rintro e w' ⟨rfl,rfl⟩
 obtain ⟨d,rfl⟩:=Int.eq_ofNat_of_zero_le hin.2.1.1
 obtain ⟨a,rfl⟩:=Int.eq_ofNat_of_zero_le hin.2.2.1.1
 obtain ⟨b,rfl⟩:=Int.eq_ofNat_of_zero_le hin.2.2.2.1.1
 obtain ⟨c,rfl⟩:=Int.eq_ofNat_of_zero_le hin.2.2.2.2.1.1
 have hd8:(d:Int) < 8:=by omega
 have ha8:(a:Int) < 8:=by omega
 have hb8:(b:Int) < 8:=by omega
 have hc8:(c:Int) < 8:=by omega
 have d00:(0:Int)≤(d:Int):=by omega
 have a00:(0:Int)≤(a:Int):=by omega
 have b00:(0:Int)≤(b:Int):=by omega
 have c00:(0:Int)≤(c:Int):=by omega
 have hn15:=hin.2.2.2.2.2
 have hpl:=HINP.out
 have hget:∀ i,i < 8→rs[i]? = some (rs.getD i 0):=fun i hi=>by rw [List.getD_eq_getElem?_getD,List.getElem?_eq_getElem (by have:=H8.out; omega)]; rfl
 have HGET:=hid hget
 clear hget
 obtain ⟨g,rfl,hg3,hg4,_⟩:=own_at H5.out.p (by omega)
 have ho2:=hk.out
 subst ho2
 obtain ⟨ha4,hn3⟩:=hpl rfl
 obtain ⟨n,rfl⟩:=Int.eq_ofNat_of_zero_le hn15.1
 have hib2:=HIN.out.2.2
 rw [insB_eq,Bool.and_eq_true,decide_eq_true_eq,insN_length] at hib2
 obtain ⟨hlb,h5⟩:=hib2
 obtain ⟨⟨A1,c1,l⟩,hq⟩:∃ q,ls[a]? = some q:=⟨_,List.getElem?_eq_getElem (by omega)⟩
 have hl:=List.all_eq_true.1 hlb l (List.mem_of_getElem? (insN_get hq))
 unfold lnB at hl
 rw [Bool.and_eq_true,decide_eq_true_eq] at hl
 obtain ⟨x,hx⟩:∃ x,l[n]? = some x:=⟨_,List.getElem?_eq_getElem (by omega)⟩
 have hxn:=nb_at hl.2 hx
 obtain ⟨ba,oa,rfl,hBa,hca⟩:=(HIN.out.1.below H5.out.b) (by rw [insW_length]; omega)
 have f0:=hca _ _ (insW_get hq)
 obtain ⟨bl,ol,e1,hBl,hcl⟩:=((HIN.out.2.1 _ _ hq).below H5.out.b) (by dsimp only; rw [ints_length]; omega)
 dsimp only at e1
 subst e1
 have f1:=hcl _ _ (ints_get hx)
 dsimp only at f0
 have ha5:(a:Int) < (ls.length:Int):=by omega
 have hn4:(n:Int) < (l.length:Int):=by omega
 have n00:(0:Int)≤(n:Int):=by omega
 have HE:=hid (show runS (insN ls) ⟨rs,os⟩ ⟨2,(d:Int),(a:Int),(b:Int),(c:Int),(n:Int)⟩=⟨rs.set d x,os⟩ from by
  have e:inAt (insN ls) (a:Int) (n:Int)=x:=by
   unfold inAt
   simp [List.getD_eq_getElem?_getD,insN_get hq,hx]
  rw [←e]
  rfl)
 clear hca hcl hq hx hl hlb h5
 obtain ⟨u0,hu0⟩:∃ u,w5.cell? ⟨g,d,none⟩=some u:=by rw [H5.out.p.cellAt d (by omega)]; have:=H5.out.p.1; exact ⟨_,List.getElem?_eq_getElem (by omega)⟩
 have hfr:=H5.out.p.frozenAt d
 have cell_z:=H5.out.z.cell
 have lt_z:=H5.out.z.lt
 go_upto_region 9 with fail
 go_region
 go_upto_region 16 with fail
 obtain ⟨w6,hw6⟩:∃ z,(w5.setCell ⟨g,d,none⟩ (.int .i64 x)).drew=z:=⟨_,rfl⟩
 have HK:=hid ((H5.out.reg (i:=d) (v:=x)).below (w':=(w5.setCell ⟨g,d,none⟩ (.int .i64 x)).drew) ((Below.refl _ _).drew))
 rw [hw6] at HK ⊢
 clear hw6 hu0 hfr cell_z lt_z cell_y lt_y f0 f1
 have hz6:=HK.out.b.size
 have hr6:=HK.out.r.lt
 have cell_z:=HK.out.z.cell
 have lt_z:=HK.out.z.lt
 go_wp2_with fail
 refine calls_forget0 (W:=w6) ?_ ?_
 (focus (exact belBy))
 intro X7 hX7
 have sX7:=hX7.size
 refine (HCP.out _ _ _ _ _ (rs.set d x) (os) _ (own_weak (own_below HK.out.p hX7) (Nat.zero_le _)) (own_weak (own_below HK.out.q hX7) (Nat.zero_le _)) (by omega)).mono ?_
 rintro e w8 ⟨v8,rfl,⟨R8,c8,O8,k8,rfl,hp8,hq8,hne8⟩,hb8⟩
 have s8:=hb8.size
 have hT8:=hX7.trans (hb8.mono sX7)
 have r8:=HK.out.r.past hT8
 have HF:=hid (And.intro (own_weak (base':=w.heap.size + 3) hp8 (by omega)) (And.intro (own_weak (base':=w.heap.size + 3) hq8 (by omega)) (And.intro hne8 (HK.out.b.trans (hT8.mono hz6)))))
 have cell_r8:=r8.cell
 have froz_r8:=r8.frozen
 have lt_r8:=r8.lt
 clear hp8 hq8 hne8 hb8 hX7 hT8 r8 cell_z lt_z
 go_wp2
 ((try simp only [Exit.inBlock,Exit.then]); apply bodyPost_ret0; focus ((try simp only [results,Tryz.results44]); (try go_simp); (try rfl)))
 have h:=HF.out
 have hz8:=h.2.2.2.size
 rw [HE.out]
 dsimp only
 refine ⟨⟨nb_set HN1.out hxn,HN2.out,by rw [List.length_set]; exact H8.out,Nat.le_succ _⟩,_,rfl,⟨R8,c8,O8,k8,by first | rfl | (rw [List.length_append]; rfl),?_,?_,?_⟩,?_⟩
 ·exact own_weak (own_touch' (L:=[w.heap.size + 2]) (w:=w8) (by exact tchBy) h.1 (fun q hq=>by have:=(own_in h.1 q hq).1; simp; omega)) (by omega)
 ·first | exact own_weak (own_touch' (L:=[w.heap.size + 2]) (w:=w8) (by exact tchBy) h.2.1 (fun q hq=>by have:=(own_in h.2.1 q hq).1; simp; omega)) (by omega) | (rw [List.length_append]; exact own_weak (own_touch' (L:=[w.heap.size + 2]) (w:=w8) (by exact tchBy) h.2.1 (fun q hq=>by have:=(own_in h.2.1 q hq).1; simp; omega)) (by omega))
 ·first | exact h.2.2.1 | (rw [List.length_append]; exact h.2.2.1)
 ·exact Touch.below' (L:=[w.heap.size + 2]) (w:=w8) (by exact tchBy) h.2.2.2 (fun i hi=>by simp at hi; omega) hz8
open Go.RowKit
set_option linter.unusedVariables false in
set_option maxRecDepth 100000 in
set_option maxHeartbeats 6400000 in
theorem sStepSt10 (R0 O0:Option Addr) (c0 o0:Nat) (rs os:List Int) (Ai:Option Addr) (ci:Nat) (ls:List In1) (s:St) (w:World) (hr:w.ownsRow 0 3 1 (.slice R0 8 c0) 8 (ints rs)) (ho:w.ownsRow 0 3 1 (.slice O0 os.length o0) os.length (ints os)) (hci:Cells w w.heap.size Ai (insW ls)) (hi:InsW w w.heap.size ls) (hm:ls.length + totL ls≤1000000000) (hib:insB (insN ls)=true)
  (h8:rs.length=8) (h1:nbB rs=true) (h2:nbB os=true) (hn:os.length≤900000) (hs:stmtB s=true) (h12:s.o≠12) (h13:s.o≠13) (hk:Hid (s.o=10)) :
  Calls Tryz.prog 44 #[.agg #[.slice R0 8 c0,.slice O0 os.length o0],.agg #[.int .i64 s.o,.int .i64 s.d,.int .i64 s.a,.int .i64 s.b,.int .i64 s.c,.int .i64 s.n],.slice Ai ls.length ci] w fun e w'=>(nbB (runS (insN ls) ⟨rs,os⟩ s).r=true∧nbB (runS (insN ls) ⟨rs,os⟩ s).o=true∧(runS (insN ls) ⟨rs,os⟩ s).r.length=8∧(runS (insN ls) ⟨rs,os⟩ s).o.length≤os.length + 1) ∧
   ∃ v,e=.returned v∧StOf w.heap.size (runS (insN ls) ⟨rs,os⟩ s).o.length (runS (insN ls) ⟨rs,os⟩ s).r (runS (insN ls) ⟨rs,os⟩ s).o v w'∧Below w.heap.size w w':=by
 have hin:=stmt_in hs
 obtain ⟨o,d,a,b,c,n⟩:=s
 dsimp only at *
 have HSO:=hid (fun w=>sStmtOk o d a b c n w)
 rw [hs] at HSO
 have HOK:=hid (fun w hr ho=>sStateOk R0 O0 c0 o0 rs os w hr ho h8 h1 h2 (by omega))
 have HIO:=hid (fun w' (h:Below w.heap.size w w')=>sInsOk Ai ci ls w' ((hci.below h).more h.size) ((hi.below h (Nat.le_refl _)).more h.size) (by omega) (fun q hq=>by have:=totL_mem hq; omega))
 rw [hib] at HIO
 have HCP:=hid (fun (R O:Option Addr) cr co n (rs os:List Int) w (h1:w.ownsRow 0 3 1 (.slice R 8 cr) 8 (ints rs)) (h2:w.ownsRow 0 3 1 (.slice O n co) n (ints os)) hn=>sCopyS R O cr co n rs os w h1 h2 hn)
 have HR0:=hid hr
 have HO0:=hid ho
 have HIN:=hid (And.intro hci (And.intro hi hib))
 have HN1:=hid h1
 have HN2:=hid h2
 have H8:=hid h8
 have hg11:decide ((11:Int) < o)=false:=by simp; omega
 have HINP:=hid (fun (h2:o=2)=>(show a≤4∧n≤3 from (stmt_plain hs (by dsimp only; omega) h12 h13).inp h2))
 clear hci hi hm hib h1 h2 hs h8
 go_enter Tryz.func44,Tryz.ntmps44
 have b_0:=(Below.refl w.heap.size w)
 have s_0:=b_0.size
 have og_in:=own_in hr
 have og_0:=hr
 clear hr
 have oo_in:=own_in ho
 have oo_0:=ho
 clear ho
 go_upto_region 1 with fail
 refine wp_forget3 (w0:=w) (B:=w.heap.size) (b0:=w.heap.size) (t0:=69) (c0:=#[.slice R0 8 c0,.slice O0 os.length o0]) (b1:=w.heap.size + 1) (t1:=73) (c1:=#[.int .i64 o,.int .i64 d,.int .i64 a,.int .i64 b,.int .i64 c,.int .i64 n]) (b2:=w.heap.size + 2) (t2:=69) (c2:=#[.slice none 0 0,.slice none 0 0]) ?_ ?_ ?_ ?_ ?_
 (focus exact blkcBy2)
 (focus exact blkcBy2)
 (focus exact blkcBy2)
 (focus (exact belBy))
 intro w1 x_1 y_1 r_1 hX1
 have sX1:=hX1.size
 have x_lt:=x_1.lt
 have y_lt:=y_1.lt
 have r_lt:=r_1.lt
 have b_1:=b_0.trans (hX1.mono (by omega))
 have og_1:=own_below og_0 hX1
 have oo_1:=own_below oo_0 hX1
 clear og_0 oo_0 b_0 hX1
 have cell_x:=x_1.cell
 have froz_x:=x_1.frozen
 have lt_x:=x_1.lt
 have cell_y:=y_1.cell
 have froz_y:=y_1.frozen
 have lt_y:=y_1.lt
 have cell_r:=r_1.cell
 have froz_r:=r_1.frozen
 have lt_r:=r_1.lt
 have H1:=hid (And.intro x_1 (And.intro y_1 (And.intro r_1 b_1)))
 have z1:=b_1.size
 have lt_r1:=r_1.lt
 go_wp2_with fail
 refine calls_forget0 (W:=w1) ?_ ?_
 (focus (exact belBy))
 intro X2 hX2
 have sX2:=hX2.size
 refine (HCP.out R0 O0 c0 o0 os.length rs os _ (own_below og_1 hX2) (own_below oo_1 hX2) (by omega)).mono ?_
 rintro e w2 ⟨v,rfl,⟨R,cr,O,co,rfl,hp,hq,hne⟩,hb2⟩
 have s2:=hb2.size
 have hT2:=hX2.trans (hb2.mono sX2)
 have H2:=hid (And.intro (H1.out.1.past hT2) (And.intro (H1.out.2.1.past hT2) (And.intro (H1.out.2.2.1.past hT2) (And.intro (own_weak (base':=w.heap.size + 3) hp (by omega)) (And.intro (own_weak (base':=w.heap.size + 3) hq (by omega)) (And.intro hne (H1.out.2.2.2.trans (hT2.mono z1))))))))
 clear hp hq hne hb2 hX2 hT2 H1 x_1 y_1 r_1 b_1 og_1 oo_1 og_in oo_in cell_x froz_x lt_x cell_y froz_y lt_y cell_r froz_r lt_r
 go_upto_region 2 with fail
 apply wp_forget1 (w0:=w2) (B:=w2.heap.size) (b0:=w2.heap.size) (t0:=TSa) (c0:=#[.slice R 8 cr,.slice O os.length co])
 focus exact blkcBy2
 focus (exact belBy)
 intro w3 z_3 hb3
 have s3:=hb3.size
 have H3:=hid (show StM w #[.slice R0 8 c0,.slice O0 os.length o0] #[.int .i64 o,.int .i64 d,.int .i64 a,.int .i64 b,.int .i64 c,.int .i64 n] rs os R O cr co w2.heap.size os.length w3 from
  ⟨H2.out.1.past hb3,H2.out.2.1.past hb3,H2.out.2.2.1.past hb3,z_3,own_below H2.out.2.2.2.1 hb3,own_below H2.out.2.2.2.2.1 hb3,H2.out.2.2.2.2.2.1,H2.out.2.2.2.2.2.2.trans (hb3.mono (by omega)),by omega⟩)
 obtain ⟨bz,hbz⟩:∃ n,w2.heap.size=n:=⟨_,rfl⟩
 rw [hbz] at H3 ⊢
 clear z_3 hb3 H2 hbz
 have z3:=H3.out.b.size
 have cell_x:=H3.out.x.cell
 have lt_x:=H3.out.x.lt
 have cell_y:=H3.out.y.cell
 have lt_y:=H3.out.y.lt
 go_wp2_with fail
 refine calls_forget0 (W:=w3) ?_ ?_
 (focus (exact belBy))
 intro X4 hX4
 have sX4:=hX4.size
 have hb4:=H3.out.b.trans (hX4.mono z3)
 refine (HOK.out _ (((Cells.of_own HR0.out).below hb4).more hb4.size) (((Cells.of_own HO0.out).below hb4).more hb4.size)).mono ?_
 rintro e w4 ⟨rfl,hb5⟩
 have s4:=hb5.size
 have H4:=hid (H3.out.below (hX4.trans (hb5.mono sX4)))
 clear cell_x lt_x cell_y lt_y hX4 hb4 hb5 H3
 have z4:=H4.out.b.size
 have cell_y:=H4.out.y.cell
 have lt_y:=H4.out.y.lt
 go_wp2_with fail
 refine calls_forget0 (W:=w4) ?_ ?_
 (focus (exact belBy))
 intro X5 hX5
 have sX5:=hX5.size
 refine (HSO.out _).mono ?_
 rintro e w5 ⟨rfl,hb5⟩
 have s5:=hb5.size
 have H5:=hid (H4.out.below (hX5.trans (hb5.mono sX5)))
 clear cell_y lt_y hX5 hb5 H4
 have z5:=H5.out.b.size
 have cell_y:=H5.out.y.cell
 have lt_y:=H5.out.y.lt
 go_wp2_with fail
 refine (HIO.out _ H5.out.b).mono ?_
 rintro e w' ⟨rfl,rfl⟩
 obtain ⟨d,rfl⟩:=Int.eq_ofNat_of_zero_le hin.2.1.1
 obtain ⟨a,rfl⟩:=Int.eq_ofNat_of_zero_le hin.2.2.1.1
 obtain ⟨b,rfl⟩:=Int.eq_ofNat_of_zero_le hin.2.2.2.1.1
 obtain ⟨c,rfl⟩:=Int.eq_ofNat_of_zero_le hin.2.2.2.2.1.1
 have hd8:(d:Int) < 8:=by omega
 have ha8:(a:Int) < 8:=by omega
 have hb8:(b:Int) < 8:=by omega
 have hc8:(c:Int) < 8:=by omega
 have d00:(0:Int)≤(d:Int):=by omega
 have a00:(0:Int)≤(a:Int):=by omega
 have b00:(0:Int)≤(b:Int):=by omega
 have c00:(0:Int)≤(c:Int):=by omega
 have hn15:=hin.2.2.2.2.2
 have hpl:=HINP.out
 have hget:∀ i,i < 8→rs[i]? = some (rs.getD i 0):=fun i hi=>by rw [List.getD_eq_getElem?_getD,List.getElem?_eq_getElem (by have:=H8.out; omega)]; rfl
 have HGET:=hid hget
 clear hget
 obtain ⟨g,rfl,hg3,hg4,_⟩:=own_at H5.out.p (by omega)
 have ho10:=hk.out
 subst ho10
 obtain ⟨br,or_,rfl,hBr,hcr⟩:=Cells.at_ ((Cells.of_own HR0.out).below H5.out.b) (ints_get (HGET.out 0 (by omega)))
 have cell_x:=H5.out.x.cell
 have lt_x:=H5.out.x.lt
 have hra:=HGET.out a (by omega)
 have hna:=nb_at HN1.out hra
 have fa:=hcr _ _ (ints_get hra)
 obtain ⟨xa,ea⟩:∃ z,rs.getD a 0=z:=⟨_,rfl⟩
 rw [ea] at hna fa
 clear hra
 have hrb:=HGET.out b (by omega)
 have hnb:=nb_at HN1.out hrb
 have fb:=hcr _ _ (ints_get hrb)
 obtain ⟨xb,eb⟩:∃ z,rs.getD b 0=z:=⟨_,rfl⟩
 rw [eb] at hnb fb
 clear hrb
 have hrc:=HGET.out c (by omega)
 have hnc:=nb_at HN1.out hrc
 have fc:=hcr _ _ (ints_get hrc)
 obtain ⟨xc,ec⟩:∃ z,rs.getD c 0=z:=⟨_,rfl⟩
 rw [ec] at hnc fc
 clear hrc
 have hxa:=inB_iff.1 hna
 have hnd:bits .and .i64 xa 1=xa % 2:=by
  obtain ⟨y,hy,rfl⟩:=nib_nat hna
  rw [show (1:Int)=((1:Nat):Int) from rfl,and_nat y 1 (by omega) (by omega),Nat.and_one_is_mod]
  omega
 by_cases hodd:xa % 2=1
 ·have hq1:(bits .and .i64 xa 1 == 1)=true:=by rw [hnd,hodd]; rfl
  have HE:=hid (show runS (insN ls) ⟨rs,os⟩ ⟨10,(d:Int),(a:Int),(b:Int),(c:Int),n⟩=⟨rs.set d xb,os⟩ from by
   have e:valI (insN ls) rs ⟨10,(d:Int),(a:Int),(b:Int),(c:Int),n⟩=xb:=by
    show (if rs.getD a 0 % 2=1 then rs.getD b 0 else rs.getD c 0)=xb
    rw [ea,if_pos hodd,eb]
   rw [←e]
   rfl)
  clear hnd hxa ea eb ec
  obtain ⟨u0,hu0⟩:∃ u,w5.cell? ⟨g,d,none⟩=some u:=by rw [H5.out.p.cellAt d (by omega)]; have:=H5.out.p.1; exact ⟨_,List.getElem?_eq_getElem (by omega)⟩
  have hfr:=H5.out.p.frozenAt d
  have cell_z:=H5.out.z.cell
  have lt_z:=H5.out.z.lt
  go_upto_region 11 with fail
  go_region
  go_upto_region 12 with fail
  obtain ⟨w6,hw6⟩:∃ z,(w5.setCell ⟨g,d,none⟩ (.int .i64 xc)).drew=z:=⟨_,rfl⟩
  have HL:=hid ((H5.out.reg (i:=d) (v:=xc)).below (w':=(w5.setCell ⟨g,d,none⟩ (.int .i64 xc)).drew) ((Below.refl _ _).drew))
  have hbl:∀ p:Addr,p.block≠g→w6.cell? p=w5.cell? p:=fun p hp=>by rw [←hw6]; exact (World.cell?_of_block (Below.heap_setCell _ _ _ p.block hp)).trans rfl
  rw [hw6] at HL ⊢
  have hgr:g≠br:=fun e=>by have:=hBr; have:=(own_in H5.out.p g rfl).1; omega
  have fa6:=(hbl ⟨br,or_ + a,none⟩ (Ne.symm hgr)).trans fa
  have fb6:=(hbl ⟨br,or_ + b,none⟩ (Ne.symm hgr)).trans fb
  clear hw6 hu0 hfr cell_z lt_z cell_y lt_y cell_x lt_x fa fb fc hbl
  have cell_x:=HL.out.x.cell
  have lt_x:=HL.out.x.lt
  have cell_y:=HL.out.y.cell
  have lt_y:=HL.out.y.lt
  have cell_z:=HL.out.z.cell
  have lt_z:=HL.out.z.lt
  obtain ⟨u0,hu0⟩:∃ u,w6.cell? ⟨g,d,none⟩=some u:=by rw [HL.out.p.cellAt d (by omega)]; have:=HL.out.p.1; exact ⟨_,List.getElem?_eq_getElem (by omega)⟩
  have hfr:=HL.out.p.frozenAt d
  go_upto_region 13 with fail
  go_region
  go_upto_region 16 with fail
  obtain ⟨w7,hw7⟩:∃ z,(w6.setCell ⟨g,d,none⟩ (.int .i64 xb)).drew=z:=⟨_,rfl⟩
  have HK:=hid ((HL.out.reg (i:=d) (v:=xb)).below (w':=(w6.setCell ⟨g,d,none⟩ (.int .i64 xb)).drew) ((Below.refl _ _).drew))
  rw [hw7,List.set_set] at HK
  rw [hw7]
  clear hw7 hu0 hfr cell_z lt_z cell_y lt_y cell_x lt_x fa6 fb6 hq1
  have hz6:=HK.out.b.size
  have hr6:=HK.out.r.lt
  have cell_z:=HK.out.z.cell
  have lt_z:=HK.out.z.lt
  go_wp2_with fail
  refine calls_forget0 (W:=w7) ?_ ?_
  (focus (exact belBy))
  intro X7 hX7
  have sX7:=hX7.size
  refine (HCP.out _ _ _ _ _ (rs.set d xb) (os) _ (own_weak (own_below HK.out.p hX7) (Nat.zero_le _)) (own_weak (own_below HK.out.q hX7) (Nat.zero_le _)) (by omega)).mono ?_
  rintro e w8 ⟨v8,rfl,⟨R8,c8,O8,k8,rfl,hp8,hq8,hne8⟩,hb8⟩
  have s8:=hb8.size
  have hT8:=hX7.trans (hb8.mono sX7)
  have r8:=HK.out.r.past hT8
  have HF:=hid (And.intro (own_weak (base':=w.heap.size + 3) hp8 (by omega)) (And.intro (own_weak (base':=w.heap.size + 3) hq8 (by omega)) (And.intro hne8 (HK.out.b.trans (hT8.mono hz6)))))
  have cell_r8:=r8.cell
  have froz_r8:=r8.frozen
  have lt_r8:=r8.lt
  clear hp8 hq8 hne8 hb8 hX7 hT8 r8 cell_z lt_z
  go_wp2
  ((try simp only [Exit.inBlock,Exit.then]); apply bodyPost_ret0; focus ((try simp only [results,Tryz.results44]); (try go_simp); (try rfl)))
  have h:=HF.out
  have hz8:=h.2.2.2.size
  rw [HE.out]
  dsimp only
  refine ⟨⟨nb_set HN1.out hnb,HN2.out,by rw [List.length_set]; exact H8.out,Nat.le_succ _⟩,_,rfl,⟨R8,c8,O8,k8,by first | rfl | (rw [List.length_append]; rfl),?_,?_,?_⟩,?_⟩
  ·exact own_weak (own_touch' (L:=[w.heap.size + 2]) (w:=w8) (by exact tchBy) h.1 (fun q hq=>by have:=(own_in h.1 q hq).1; simp; omega)) (by omega)
  ·first | exact own_weak (own_touch' (L:=[w.heap.size + 2]) (w:=w8) (by exact tchBy) h.2.1 (fun q hq=>by have:=(own_in h.2.1 q hq).1; simp; omega)) (by omega) | (rw [List.length_append]; exact own_weak (own_touch' (L:=[w.heap.size + 2]) (w:=w8) (by exact tchBy) h.2.1 (fun q hq=>by have:=(own_in h.2.1 q hq).1; simp; omega)) (by omega))
  ·first | exact h.2.2.1 | (rw [List.length_append]; exact h.2.2.1)
  ·exact Touch.below' (L:=[w.heap.size + 2]) (w:=w8) (by exact tchBy) h.2.2.2 (fun i hi=>by simp at hi; omega) hz8
 ·have hq1:(bits .and .i64 xa 1 == 1)=false:=by rw [hnd]; simp; omega
  have HE:=hid (show runS (insN ls) ⟨rs,os⟩ ⟨10,(d:Int),(a:Int),(b:Int),(c:Int),n⟩=⟨rs.set d xc,os⟩ from by
   have e:valI (insN ls) rs ⟨10,(d:Int),(a:Int),(b:Int),(c:Int),n⟩=xc:=by
    show (if rs.getD a 0 % 2=1 then rs.getD b 0 else rs.getD c 0)=xc
    rw [ea,if_neg hodd,ec]
   rw [←e]
   rfl)
  clear hnd hxa ea eb ec
  obtain ⟨u0,hu0⟩:∃ u,w5.cell? ⟨g,d,none⟩=some u:=by rw [H5.out.p.cellAt d (by omega)]; have:=H5.out.p.1; exact ⟨_,List.getElem?_eq_getElem (by omega)⟩
  have hfr:=H5.out.p.frozenAt d
  have cell_z:=H5.out.z.cell
  have lt_z:=H5.out.z.lt
  go_upto_region 11 with fail
  go_region
  go_upto_region 12 with fail
  obtain ⟨w6,hw6⟩:∃ z,(w5.setCell ⟨g,d,none⟩ (.int .i64 xc)).drew=z:=⟨_,rfl⟩
  have HK:=hid ((H5.out.reg (i:=d) (v:=xc)).below (w':=(w5.setCell ⟨g,d,none⟩ (.int .i64 xc)).drew) ((Below.refl _ _).drew))
  have hbl:∀ p:Addr,p.block≠g→w6.cell? p=w5.cell? p:=fun p hp=>by rw [←hw6]; exact (World.cell?_of_block (Below.heap_setCell _ _ _ p.block hp)).trans rfl
  rw [hw6] at HK ⊢
  have hgr:g≠br:=fun e=>by have:=hBr; have:=(own_in H5.out.p g rfl).1; omega
  have fa6:=(hbl ⟨br,or_ + a,none⟩ (Ne.symm hgr)).trans fa
  clear hw6 hu0 hfr cell_z lt_z cell_y lt_y cell_x lt_x fa fb fc hbl
  have cell_x:=HK.out.x.cell
  have lt_x:=HK.out.x.lt
  have cell_y:=HK.out.y.cell
  have lt_y:=HK.out.y.lt
  go_upto_region 16 with fail
  clear cell_x lt_x cell_y lt_y fa6 hq1
  have hz6:=HK.out.b.size
  have hr6:=HK.out.r.lt
  have cell_z:=HK.out.z.cell
  have lt_z:=HK.out.z.lt
  go_wp2_with fail
  refine calls_forget0 (W:=w6) ?_ ?_
  (focus (exact belBy))
  intro X7 hX7
  have sX7:=hX7.size
  refine (HCP.out _ _ _ _ _ (rs.set d xc) (os) _ (own_weak (own_below HK.out.p hX7) (Nat.zero_le _)) (own_weak (own_below HK.out.q hX7) (Nat.zero_le _)) (by omega)).mono ?_
  rintro e w8 ⟨v8,rfl,⟨R8,c8,O8,k8,rfl,hp8,hq8,hne8⟩,hb8⟩
  have s8:=hb8.size
  have hT8:=hX7.trans (hb8.mono sX7)
  have r8:=HK.out.r.past hT8
  have HF:=hid (And.intro (own_weak (base':=w.heap.size + 3) hp8 (by omega)) (And.intro (own_weak (base':=w.heap.size + 3) hq8 (by omega)) (And.intro hne8 (HK.out.b.trans (hT8.mono hz6)))))
  have cell_r8:=r8.cell
  have froz_r8:=r8.frozen
  have lt_r8:=r8.lt
  clear hp8 hq8 hne8 hb8 hX7 hT8 r8 cell_z lt_z
  go_wp2
  ((try simp only [Exit.inBlock,Exit.then]); apply bodyPost_ret0; focus ((try simp only [results,Tryz.results44]); (try go_simp); (try rfl)))
  have h:=HF.out
  have hz8:=h.2.2.2.size
  rw [HE.out]
  dsimp only
  refine ⟨⟨nb_set HN1.out hnc,HN2.out,by rw [List.length_set]; exact H8.out,Nat.le_succ _⟩,_,rfl,⟨R8,c8,O8,k8,by first | rfl | (rw [List.length_append]; rfl),?_,?_,?_⟩,?_⟩
  ·exact own_weak (own_touch' (L:=[w.heap.size + 2]) (w:=w8) (by exact tchBy) h.1 (fun q hq=>by have:=(own_in h.1 q hq).1; simp; omega)) (by omega)
  ·first | exact own_weak (own_touch' (L:=[w.heap.size + 2]) (w:=w8) (by exact tchBy) h.2.1 (fun q hq=>by have:=(own_in h.2.1 q hq).1; simp; omega)) (by omega) | (rw [List.length_append]; exact own_weak (own_touch' (L:=[w.heap.size + 2]) (w:=w8) (by exact tchBy) h.2.1 (fun q hq=>by have:=(own_in h.2.1 q hq).1; simp; omega)) (by omega))
  ·first | exact h.2.2.1 | (rw [List.length_append]; exact h.2.2.1)
  ·exact Touch.below' (L:=[w.heap.size + 2]) (w:=w8) (by exact tchBy) h.2.2.2 (fun i hi=>by simp at hi; omega) hz8
end Go.Proofs.YtihbaieiempjeaaGreat
