/- Lemmas of the proof: PubI, PubS, Wds, WdsW. -/
import Derived.Test.YtihbaieiempjeaaGreatA0
import Derived.Test.YtihbaieiempjeaaGreatA19
import Derived.Test.YtihbaieiempjeaaGreatA21
import Derived.Test.YtihbaieiempjeaaGreatA14
import Derived.Test.YtihbaieiempjeaaGreatA2
namespace Go.Proofs.YtihbaieiempjeaaGreat
open Go.RowKit
theorem grow_lit1i {P:Program} {t e base:Nat} {w:World} {o:Oper} {a:Act} {x:Operand} {v:Value} (ho:o.op=Op.buildSlice t 1 #[(0,x)]) (hv:a.eval x=v)
  (hr:∀ w:World,(Instr.buildSlice t 1 #[(0,v)]).run P w=.ok (.slice (some ⟨w.heap.size,0,none⟩) 1 1) (w.alloc (.cells #[v] e))) (hb:base≤w.heap.size) :
  growUpon P Grows (RowOf base e 1 1 [v]) w ((execOp a.eval o).run P w):=by
 simp [execOp,ho,growUpon,hr,hv,Result.andThen]
 exact ⟨(Below.refl _ _).alloc (Nat.le_refl _) _,_,_,rfl,own_lit #[v] 1 rfl hb (by decide) rfl⟩
theorem litInt (b:Int) (w:World):(Instr.buildSlice 30 1 #[(0,.int .i64 b)]).run Tryz.prog w=.ok (.slice (some ⟨w.heap.size,0,none⟩) 1 1) (w.alloc (.cells #[.int .i64 b] 3)):=by
 simp [go_sem]
theorem con_step {d:Int} {zs:List Int} {gs:List Gt} {j:Nat} {g:Gt} (h:gs[j]? = some g):conTo d zs gs (j + 1)=conTo d zs gs j ++ conP d zs j g:=by
 rw [conTo,List.getD_eq_getElem?_getD,h]
 rfl
theorem conTo_len (d:Int) (zs:List Int) (gs:List Gt):∀ j,(conTo d zs gs j).length≤j
 | 0=>Nat.le_refl _
 | j + 1=>by
  have h:=conTo_len d zs gs j
  rw [conTo,List.length_append]
  unfold conP
  split <;> simp <;> omega
theorem dec_step {zs os:List Int} {i:Nat} {x:Int} (h:os[i]? = some x):decL zs (os.take (i + 1))=decL zs (os.take i) ++ [oneI (zs.getD x.toNat 0)]:=by
 unfold decL
 rw [take_snoc h,List.map_append]
 rfl
set_option linter.unusedVariables false in
set_option maxRecDepth 100000 in
set_option maxHeartbeats 6400000 in
theorem iPublicOf (G O Z T:Option Addr) (cg co cz ct:Nat) (gs:List Gt) (os:List Int) (d:Int) (zs ts:List Int) (w:World) (hg:Cells w w.heap.size G (ints (flatG gs))) (ho:Cells w w.heap.size O (ints os)) (hz:Cells w w.heap.size Z (ints zs)) (ht:w.ownsRow 0 3 1 (.slice T ts.length ct) ts.length (ints ts)) (h:GarOk gs os d zs ts) :
  Calls Tryz.prog 51 #[.agg #[.slice G gs.length cg,.slice O os.length co],.agg #[.int .i64 d,.slice Z zs.length cz,.slice T ts.length ct]] w (GivesP w ts (conTo d zs gs gs.length) (decL zs os)):=by
 obtain ⟨hn6,hgv,hov⟩:=circ_parts h.c
 have HG:=hid hg
 have HO:=hid ho
 have HZ:=hid hz
 have HT:=hid ht
 have HK:=hid (fun w hg ho hz ht=>iGarbledOk G O Z T cg co cz ct gs os d zs ts w hg ho hz ht h)
 have hcn:=cntG_le gs 4
 have htn:=h.tn
 have hzn:=Nat.le_of_eq h.zn.symm
 have hm:=h.m
 have hdl:=h.dl
 have HV:=hid hgv
 have HW:=hid hov
 have HL:=hid h.z
 have ht6:ts.length≤12000:=by omega
 clear hg ho hz h hgv hov hcn htn
 go_enter Tryz.func51,Tryz.ntmps51
 have b_0:=(Below.refl w.heap.size w)
 have s_0:=b_0.size
 have to_in:=own_in ht
 have to_0:=ht
 clear ht
 go_upto_region 1 with fail
 refine wp_forget3 (w0:=w) (B:=w.heap.size) (b0:=w.heap.size) (t0:=40) (c0:=#[.slice G gs.length cg,.slice O os.length co]) (b1:=w.heap.size + 1) (t1:=76) (c1:=#[.int .i64 d,.slice Z zs.length cz,.slice T ts.length ct]) (b2:=w.heap.size + 2) (t2:=80) (c2:=#[.slice none 0 0,.slice none 0 0,.slice none 0 0]) ?_ ?_ ?_ ?_ ?_
 (focus exact blkcBy2)
 (focus exact blkcBy2)
 (focus exact blkcBy2)
 (focus (exact belBy))
 intro w1 x_1 g_1 r_1 hX1
 have sX1:=hX1.size
 have x_lt:=x_1.lt
 have g_lt:=g_1.lt
 have r_lt:=r_1.lt
 have b_1:=b_0.trans (hX1.mono (by omega))
 have to_1:=own_below to_0 hX1
 clear to_0 b_0 hX1
 have cell_x:=x_1.cell
 have froz_x:=x_1.frozen
 have lt_x:=x_1.lt
 have cell_g:=g_1.cell
 have froz_g:=g_1.frozen
 have lt_g:=g_1.lt
 have cell_r:=r_1.cell
 have froz_r:=r_1.frozen
 have lt_r:=r_1.lt
 go_wp2_with fail
 refine calls_forget0 (W:=w1) ?_ ?_
 (focus (exact belBy))
 intro X2 hX2
 have sX2:=hX2.size
 refine (HK.out _ ((HG.out.below (b_1.trans (hX2.mono (by omega)))).more (by omega)) ((HO.out.below (b_1.trans (hX2.mono (by omega)))).more (by omega)) ((HZ.out.below (b_1.trans (hX2.mono (by omega)))).more (by omega)) ((Cells.of_own HT.out |>.below (b_1.trans (hX2.mono (by omega)))).more (by omega))).mono ?_
 rintro e w2 ⟨rfl,hb2⟩
 have s2:=hb2.size
 have hT2:=hX2.trans (hb2.mono sX2)
 have b_2:=b_1.trans (hT2.mono (by omega))
 have to_2:=own_below to_1 hT2
 have x_2:=Blk.past hT2 x_1
 have g_2:=Blk.past hT2 g_1
 have r_2:=Blk.past hT2 r_1
 clear to_1 x_1 g_1 r_1 b_1 cell_x froz_x lt_x cell_g froz_g lt_g cell_r froz_r lt_r hX2 hT2 hb2
 have cell_x:=x_2.cell
 have froz_x:=x_2.frozen
 have lt_x:=x_2.lt
 have cell_g:=g_2.cell
 have froz_g:=g_2.frozen
 have lt_g:=g_2.lt
 have cell_r:=r_2.cell
 have froz_r:=r_2.frozen
 have lt_r:=r_2.lt
 go_wp2_with fail
 refine calls_forget0 (W:=w2) ?_ ?_
 (focus (exact belBy))
 intro X3 hX3
 have sX3:=hX3.size
 refine (iIntsO T ct ts.length ts _ (own_below to_2 hX3) (by omega)).mono ?_
 rintro e w3 ⟨A',c',rfl,ta_3,hb3⟩
 have s3:=hb3.size
 have hT3:=hX3.trans (hb3.mono sX3)
 have b_3:=b_2.trans (hT3.mono (by omega))
 have to_3:=own_below to_2 hT3
 have x_3:=Blk.past hT3 x_2
 have g_3:=Blk.past hT3 g_2
 have r_3:=Blk.past hT3 r_2
 have ta_in:=own_in ta_3
 clear to_2 x_2 g_2 r_2 b_2 cell_x froz_x lt_x cell_g froz_g lt_g cell_r froz_r lt_r hX3 hT3 hb3
 have cell_x:=x_3.cell
 have froz_x:=x_3.frozen
 have lt_x:=x_3.lt
 have cell_g:=g_3.cell
 have froz_g:=g_3.frozen
 have lt_g:=g_3.lt
 have cell_r:=r_3.cell
 have froz_r:=r_3.frozen
 have lt_r:=r_3.lt
 go_upto_region 4 with fail
 refine wp_forget1 (w0:=w3) (B:=w3.heap.size) (b0:=w3.heap.size) (t0:=80) (c0:=#[.slice A' ts.length c',.slice none 0 0,.slice none 0 0]) ?_ ?_ ?_
 (focus exact blkcBy2)
 (focus (exact belBy))
 intro w4 p_4 hX4
 have sX4:=hX4.size
 have p_lt:=p_4.lt
 have b_4:=b_3.trans (hX4.mono (by omega))
 have to_4:=own_below to_3 hX4
 have ta_4:=own_below ta_3 hX4
 have x_4:=Blk.past hX4 x_3
 have g_4:=Blk.past hX4 g_3
 have r_4:=Blk.past hX4 r_3
 clear to_3 ta_3 x_3 g_3 r_3 b_3 cell_x froz_x lt_x cell_g froz_g lt_g cell_r froz_r lt_r hX4
 have cell_x:=x_4.cell
 have froz_x:=x_4.frozen
 have lt_x:=x_4.lt
 have cell_g:=g_4.cell
 have froz_g:=g_4.frozen
 have lt_g:=g_4.lt
 have cell_r:=r_4.cell
 have froz_r:=r_4.frozen
 have lt_r:=r_4.lt
 have cell_p:=p_4.cell
 have froz_p:=p_4.frozen
 have lt_p:=p_4.lt
 obtain ⟨bp,hbp⟩:∃ n,w3.heap.size=n:=⟨_,rfl⟩
 rw [hbp] at p_4
 have H4:=hid (show PubM w w.heap.size (w.heap.size + 1) (w.heap.size + 2) bp #[.slice G gs.length cg,.slice O os.length co] #[.int .i64 d,.slice Z zs.length cz,.slice T ts.length ct] #[.slice none 0 0,.slice none 0 0,.slice none 0 0] ts [] [] A' c' none 0 none 0 w4 from
  ⟨x_4,g_4,r_4,p_4,own_weak ta_4 (by omega),own_none,own_none,(fun q _ hp=>by cases hp),(fun q _ hp=>by cases hp),(fun q hq=>by cases hq),b_4,by omega,by omega⟩)
 rw [hbp]
 clear x_4 g_4 r_4 p_4 ta_4 to_4 ta_in to_in b_4 froz_x cell_g froz_g lt_g cell_r froz_r lt_r cell_p froz_p lt_p hbp
 go_wp2_with fail
 clear cell_x lt_x
 go_loopw [7,8,23] (fun _ _ i wr=>∃ (j kk:Nat) (K:Option Addr),j≤gs.length∧i=.int .i64 (j:Int)∧PubM w w.heap.size (w.heap.size + 1) (w.heap.size + 2) bp #[.slice G gs.length cg,.slice O os.length co] #[.int .i64 d,.slice Z zs.length cz,.slice T ts.length ct] #[.slice none 0 0,.slice none 0 0,.slice none 0 0] ts (conTo d zs gs j) [] A' c' K kk none 0 wr) (fun _ _ i _=>gs.length - (intOf i).toNat)
 case atStart=>exact ⟨0,0,none,Nat.zero_le _,rfl,H4.out⟩
 case round =>
  clear H4
  obtain ⟨j,kk,K,hj,rfl,hI⟩:=hrel
  have hkl:=conTo_len d zs gs j
  by_cases hlt:j < gs.length
  ·obtain ⟨⟨k,x,y⟩,hx⟩:∃ s,gs[j]? = some s:=⟨_,List.getElem?_eq_getElem hlt⟩
   have hgv:=gatesB_at HV.out hx
   rw [Nat.zero_add] at hgv
   have hst:=con_step (d:=d) (zs:=zs) hx
   obtain ⟨bG,og,rfl,hBg,d0,d1,d2⟩:=gt_cells HG.out hI.bl hx
   obtain ⟨ks,hks⟩:∃ c,conTo d zs gs j=c:=⟨_,rfl⟩
   rw [hks] at hI hkl hst
   have hzx:zs[j]? = some (zs.getD j 0):=by rw [List.getD_eq_getElem?_getD,List.getElem?_eq_getElem (by omega)]; rfl
   unfold conP at hst
   dsimp only at hst
   have hbs:=hI.bl.size
   have hlt':(j:Int) < (gs.length:Int):=by omega
   have hlz':(j:Int) < (zs.length:Int):=by omega
   have j00:(0:Int)≤(j:Int):=by omega
   have hb1:ks.length + 1≤1000000:=by omega
   clear hx hks hkl
   have cell_x:=hI.c.cell
   have lt_x:=hI.c.lt
   have cell_g:=hI.g.cell
   have lt_g:=hI.g.lt
   have b_30:=(Below.refl wr.heap.size wr)
   have s_30:=b_30.size
   go_upto_region 7 with fail
   refine wp_forget1 (w0:=wr) (B:=wr.heap.size) (b0:=wr.heap.size) (t0:=96) (c0:=#[.int .i64 k,.int .i64 x,.int .i64 y]) ?_ ?_ ?_
   (focus exact blkcBy2)
   (focus (exact belBy))
   intro w31 q_31 hX31
   have sX31:=hX31.size
   have q_lt:=q_31.lt
   have b_31:=b_30.trans (hX31.mono (by omega))
   clear b_30 hX31
   have cell_q:=q_31.cell
   have froz_q:=q_31.frozen
   have lt_q:=q_31.lt
   have z31:=b_31.size
   have HI3:=hid (hI.below b_31)
   have c0:=cell_q 0
   have c1:=cell_q 1
   dsimp at c0 c1
   have HQ3:=hid q_31
   clear b_31 q_31 hI cell_x lt_x cell_g lt_g
   obtain ⟨bz,oz,rfl,hBz,hcz⟩:=Cells.at_ (HZ.out.below HI3.out.bl) (ints_get hzx)
   have fz:=hcz _ _ (ints_get hzx)
   have hlz:=HL.out _ (List.mem_of_getElem? hzx)
   obtain ⟨z,hzd⟩:∃ z,zs.getD j 0=z:=⟨_,rfl⟩
   rw [hzd] at fz hlz hst
   clear hcz hzx hzd
   by_cases hk:k=2
   ·subst hk
    have ha2:=(gate_is2 hgv rfl).1
    dsimp only at ha2
    have ha:=inB_iff.2 (show 0≤x∧x≤1 by omega)
    clear ha2
    have HS:=hid (hst.trans (show _=ks ++ [lblI z d x] from rfl))
    have HFZ:=hid fz
    clear hst hgv fz
    go_upto_region 8 with fail
    have qx:=fun (X:Later w31) (o:Nat)=>(HI3.out.c.past X.below).cell o
    have qg:=fun (X:Later w31) (o:Nat)=>(HI3.out.g.past X.below).cell o
    have qp:=fun (X:Later w31) (o:Nat)=>(HI3.out.p.past X.below).cell o
    have qq:=fun (X:Later w31) (o:Nat)=>(HQ3.out.past X.below).cell o
    have qz:=fun (X:Later w31)=>(X.below.cell (p:=⟨bz,oz + j,none⟩) (by dsimp only; omega)).trans HFZ.out
    refine wp_grow_tails (W:=w31) (spec:=specAt [(11,.con (.int .i64 (lblI z d x))),(12,.any (RowOf w31.heap.size 3 1 1 [.int .i64 (lblI z d x)]))]) 13 (by kernel_rfl) (by kernel_rfl) (Onward.mk' ((Below.refl _ _).drew)) (specAt_stab ?_) ?_
    ·intro p hp F hF
     simp only [List.mem_cons,List.not_mem_nil,or_false] at hp
     rcases hp with rfl | rfl
     all_goals first | (cases hF; done) | (injection hF with hF; subst hF; exact RowOf.stable)
    refine gList_quietK 11 ⟨rfl,rfl,rfl,rfl,rfl,rfl,rfl,rfl,rfl,rfl,rfl,rfl,rfl,rfl,rfl,rfl,rfl,rfl,rfl,rfl,rfl,rfl,trivial⟩ (by decide) ?_
    delta Onward
    dsimp only [List.take,List.drop]
    repeat (go_big_quiet_step (fail))
    refine wpQuiet_nil ?_
    refine gList_con (.int .i64 (lblI z d x)) rfl rfl (fun w' hC _=>?_) ?_
    ·obtain ⟨⟨w',hb⟩,rfl⟩:=hC
     exact grow_con (by simp [go_sem]) (iLabelFor z d x _ hlz hdl ha)
    simp only [Act.put,List.setIfInBounds_toArray,List.set_cons_succ,List.set_cons_zero]
    refine gList_any (RowOf w31.heap.size 3 1 1 [.int .i64 (lblI z d x)]) rfl rfl (fun w' hC hd=>?_) (fun vr=>?_)
    ·obtain ⟨⟨w',hb⟩,rfl⟩:=hC
     exact grow_lit1i rfl rfl (fun w=>litInt _ w) hb.size
    unfold gList
    intro w' hW hfs
    have hlast:RowOf w31.heap.size 3 1 1 [.int .i64 (lblI z d x)] vr w':=hfs 12
    obtain ⟨⟨w32,hb⟩,rfl⟩:=hW
    obtain ⟨A7,c7,rfl,h7⟩:=hlast
    obtain ⟨g7,rfl,_,_,_⟩:=own_at h7 (by omega)
    have s32:=hb.size
    have H7:=hid (row_cells (show Row _ g7 _ 1 1 c7 _ from own_weak h7 (Nat.zero_le _)))
    have HW:=hid (HI3.out.below hb)
    have hw32:=HW.out.bl.size
    clear qx qg qp qz hfs hb h7 HFZ qq
    dsimp only [List.drop]
    simp only [Act.put,List.setIfInBounds_toArray,List.set_cons_succ,List.set_cons_zero]
    have hko:=HW.out.k
    have hne1:=hid (own_ne_obj HW.out.k HW.out.p (by decide))
    go_wp2_with (at_builtin; refine app_ints rfl _ _ rfl (base:=w.heap.size) (L:=ks) (v:=Value.slice K ks.length kk) rfl hko (by omega) [lblI z d x] rfl rfl H7.out hb1 ?_)
    intro A1 k1 w8 ho8 hg8 hl8
    have kx8:=gr_blk hg8 HW.out.p hne1.out
    have cell_8:=kx8.cell
    have froz_8:=kx8.frozen
    have lt_8:=kx8.lt
    have HF:=hid (PubM.con HW.out (Below.refl _ _) ho8 hg8 (fun q hq=>(hl8 q hq).imp id (fun e=>by omega)))
    clear ho8 hg8 hl8 kx8 hko hne1
    go_wp2
    go_roundw
    case rel=>exact ⟨j + 1,k1,A1,by omega,by go_num,by rw [HS.out]; exact HF.out⟩
    case measure=>simp [intOf]; omega
   ·have HS:=hid (hst.trans (show _=ks by rw [if_neg (by simpa using hk),List.append_nil]))
    have hk':(k == 2)=false:=by simpa using hk
    clear hst hgv
    go_wp2
    go_roundw
    case rel=>exact ⟨j + 1,kk,K,by omega,by go_num,by rw [HS.out]; exact HI3.out⟩
    case measure=>simp [intOf]; omega
  ·obtain rfl:j=gs.length:=by omega
   obtain ⟨ks,hks⟩:∃ c,conTo d zs gs gs.length=c:=⟨_,rfl⟩
   rw [hks] at hI
   have HKS:=hid hks
   have H5:=hid hI
   clear hks
   have cell_x:=hI.c.cell
   have lt_x:=hI.c.lt
   clear hI hkl
   go_wp2_with fail
   clear cell_x lt_x
   go_loopw [10,50] (fun _ i wr=>∃ (j kd:Nat) (D:Option Addr),j≤os.length∧i=.int .i64 (j:Int)∧PubM w w.heap.size (w.heap.size + 1) (w.heap.size + 2) bp #[.slice G gs.length cg,.slice O os.length co] #[.int .i64 d,.slice Z zs.length cz,.slice T ts.length ct] #[.slice none 0 0,.slice none 0 0,.slice none 0 0] ts ks (decL zs (os.take j)) A' c' K kk D kd wr) (fun _ i _=>os.length - (intOf i).toNat)
   case atStart=>exact ⟨0,0,none,Nat.zero_le _,rfl,H5.out⟩
   case round =>
    clear H5
    obtain ⟨j,kd,D,hj,rfl,hI⟩:=hrel
    have cell_x:=hI.c.cell
    have lt_x:=hI.c.lt
    have hdl:(decL zs (os.take j)).length=j:=by unfold decL; simp; omega
    by_cases hlt2:j < os.length
    ·obtain ⟨x,hx⟩:∃ s,os[j]? = some s:=⟨_,List.getElem?_eq_getElem hlt2⟩
     have hxw:=wireB_iff.1 (outs_wire HW.out x (List.mem_of_getElem? hx))
     obtain ⟨x,rfl⟩:=Int.eq_ofNat_of_zero_le hxw.1
     have hst:=dec_step (zs:=zs) hx
     obtain ⟨bo,oo,rfl,hBo,hco⟩:=Cells.at_ (HO.out.below hI.bl) (ints_get hx)
     have d0:=hco _ _ (ints_get hx)
     have hzx:zs[x]? = some (zs.getD x 0):=by rw [List.getD_eq_getElem?_getD,List.getElem?_eq_getElem (by omega)]; rfl
     obtain ⟨bz,oz,rfl,hBz,hcz⟩:=Cells.at_ (HZ.out.below hI.bl) (ints_get hzx)
     have fz:=hcz _ _ (ints_get hzx)
     obtain ⟨z,hzd⟩:∃ z,zs.getD x 0=z:=⟨_,rfl⟩
     have hxn:((x:Nat):Int).toNat=x:=by omega
     rw [hxn,hzd] at hst
     rw [hzd] at fz
     obtain ⟨dd,hdd⟩:∃ c,decL zs (os.take j)=c:=⟨_,rfl⟩
     rw [hdd] at hI hst hdl
     have hbs:=hI.bl.size
     have hlt':(j:Int) < (os.length:Int):=by omega
     have hlz':(x:Int) < (zs.length:Int):=by omega
     have j00:(0:Int)≤(j:Int):=by omega
     have x00:(0:Int)≤(x:Int):=by omega
     have hb1:dd.length + 1≤1000000:=by omega
     have HST:=hid hst
     have HI:=hid hI
     have HFZ:=hid (And.intro fz d0)
     clear hcz hzx hzd hx hdd hst hI hco hxw hxn hdl fz
     go_upto_region 13 with fail
     clear d0
     have qx:=fun (X:Later wr) (o:Nat)=>(HI.out.c.past X.below).cell o
     have qg:=fun (X:Later wr) (o:Nat)=>(HI.out.g.past X.below).cell o
     have qp:=fun (X:Later wr) (o:Nat)=>(HI.out.p.past X.below).cell o
     have qz:=fun (X:Later wr)=>(X.below.cell (p:=⟨bz,oz + x,none⟩) (by dsimp only; omega)).trans HFZ.out.1
     have q0:=fun (X:Later wr)=>(X.below.cell (p:=⟨bo,oo + j,none⟩) (by dsimp only; omega)).trans HFZ.out.2
     refine wp_grow_tails (W:=wr) (spec:=specAt [(8,.any (RowOf wr.heap.size 3 1 1 [.int .i64 (bits .and .i64 z 1)]))]) 9 (by kernel_rfl) (by kernel_rfl) (Onward.mk' ((Below.refl _ _).drew)) (specAt_stab ?_) ?_
     ·intro p hp F hF
      simp only [List.mem_cons,List.not_mem_nil,or_false] at hp
      rcases hp with rfl
      all_goals first | (cases hF; done) | (injection hF with hF; subst hF; exact RowOf.stable)
     refine gList_quietK 8 ⟨rfl,rfl,rfl,rfl,rfl,rfl,rfl,rfl,rfl,rfl,rfl,rfl,rfl,rfl,rfl,rfl,trivial⟩ (by decide) ?_
     delta Onward
     dsimp only [List.take,List.drop]
     repeat (go_big_quiet_step (fail))
     refine wpQuiet_nil ?_
     refine gList_any (RowOf wr.heap.size 3 1 1 [.int .i64 (bits .and .i64 z 1)]) rfl rfl (fun w' hC hd=>?_) (fun vr=>?_)
     ·obtain ⟨⟨w',hb⟩,rfl⟩:=hC
      exact grow_lit1i rfl rfl (fun w=>litInt _ w) hb.size
     unfold gList
     intro w' hW hfs
     have hlast:RowOf wr.heap.size 3 1 1 [.int .i64 (bits .and .i64 z 1)] vr w':=hfs 8
     obtain ⟨⟨w32,hb⟩,rfl⟩:=hW
     obtain ⟨A7,c7,rfl,h7⟩:=hlast
     obtain ⟨g7,rfl,_,_,_⟩:=own_at h7 (by omega)
     have s32:=hb.size
     have H7:=hid (row_cells (show Row _ g7 _ 1 1 c7 _ from own_weak h7 (Nat.zero_le _)))
     have HX:=hid (HI.out.below hb)
     have hw32:=HX.out.bl.size
     clear qx qg qp qz q0 hfs hb h7 HFZ
     dsimp only [List.drop]
     simp only [Act.put,List.setIfInBounds_toArray,List.set_cons_succ,List.set_cons_zero]
     have hko:=HX.out.d
     have hne1:=hid (own_ne_obj HX.out.d HX.out.p (by decide))
     go_wp2_with (at_builtin; refine app_ints rfl _ _ rfl (base:=w.heap.size) (L:=dd) (v:=Value.slice D dd.length kd) rfl hko (by omega) [bits .and .i64 z 1] rfl rfl H7.out hb1 ?_)
     intro A1 k1 w8 ho8 hg8 hl8
     have kx8:=gr_blk hg8 HX.out.p hne1.out
     have cell_8:=kx8.cell
     have froz_8:=kx8.frozen
     have lt_8:=kx8.lt
     have HF:=hid (PubM.dec HX.out (Below.refl _ _) ho8 hg8 (fun q hq=>(hl8 q hq).imp id (fun e=>by omega)))
     clear ho8 hg8 hl8 kx8 hko hne1 cell_x lt_x
     go_wp2
     go_roundw
     case rel=>exact ⟨j + 1,k1,A1,by omega,by go_num,by rw [HST.out]; exact HF.out⟩
     case measure=>simp [intOf]; omega
    ·obtain rfl:j=os.length:=by omega
     rw [List.take_length] at hI hdl
     have hbk:=hI.p
     have cell_p:=hbk.cell
     have froz_p:=hbk.frozen
     have lt_p:=hbk.lt
     have cell_r:=hI.r.cell
     have froz_r:=hI.r.frozen
     have lt_r:=hI.r.lt
     have hne:bp≠w.heap.size + 2:=hI.hr.symm
     have hne2:w.heap.size + 2≠bp:=hI.hr
     have HI:=hid hI
     clear hI hbk hdl
     go_wp2
     ((try simp only [Exit.inBlock,Exit.then]); apply bodyPost_ret0; focus ((try simp only [results,Tryz.results51]); (try go_simp); (try rfl)))
     have hks:=HKS.out
     subst hks
     exact HI.out.give (by exact tchBy) (by omega)
open Go.RowKit
set_option linter.unusedVariables false in
set_option maxRecDepth 100000 in
set_option maxHeartbeats 6400000 in
theorem sPublicOf (G O Z T:Option Addr) (cg co cz ct:Nat) (gs:List Gt) (os:List Int) (d:Int) (zs ts:List Int) (w:World) (hg:Cells w w.heap.size G (ints (flatG gs))) (ho:Cells w w.heap.size O (ints os)) (hz:Cells w w.heap.size Z (ints zs)) (ht:w.ownsRow 0 3 1 (.slice T ts.length ct) ts.length (ints ts)) (h:GarOk gs os d zs ts) :
  Calls Tryz.prog 132 #[.agg #[.slice G gs.length cg,.slice O os.length co],.agg #[.int .i64 d,.slice Z zs.length cz,.slice T ts.length ct]] w (GivesP w ts (conTo d zs gs gs.length) (decL zs os)):=by
 obtain ⟨hn6,hgv,hov⟩:=circ_parts h.c
 have HG:=hid hg
 have HO:=hid ho
 have HZ:=hid hz
 have HT:=hid ht
 have HK:=hid (fun w hg ho hz ht=>sGarbledOk G O Z T cg co cz ct gs os d zs ts w hg ho hz ht h)
 have hcn:=cntG_le gs 4
 have htn:=h.tn
 have hzn:=Nat.le_of_eq h.zn.symm
 have hm:=h.m
 have hdl:=h.dl
 have HV:=hid hgv
 have HW:=hid hov
 have HL:=hid h.z
 have ht6:ts.length≤12000:=by omega
 clear hg ho hz h hgv hov hcn htn
 go_enter Tryz.func132,Tryz.ntmps132
 have b_0:=(Below.refl w.heap.size w)
 have s_0:=b_0.size
 have to_in:=own_in ht
 have to_0:=ht
 clear ht
 go_upto_region 1 with fail
 refine wp_forget3 (w0:=w) (B:=w.heap.size) (b0:=w.heap.size) (t0:=40) (c0:=#[.slice G gs.length cg,.slice O os.length co]) (b1:=w.heap.size + 1) (t1:=76) (c1:=#[.int .i64 d,.slice Z zs.length cz,.slice T ts.length ct]) (b2:=w.heap.size + 2) (t2:=80) (c2:=#[.slice none 0 0,.slice none 0 0,.slice none 0 0]) ?_ ?_ ?_ ?_ ?_
 (focus exact blkcBy2)
 (focus exact blkcBy2)
 (focus exact blkcBy2)
 (focus (exact belBy))
 intro w1 x_1 g_1 r_1 hX1
 have sX1:=hX1.size
 have x_lt:=x_1.lt
 have g_lt:=g_1.lt
 have r_lt:=r_1.lt
 have b_1:=b_0.trans (hX1.mono (by omega))
 have to_1:=own_below to_0 hX1
 clear to_0 b_0 hX1
 have cell_x:=x_1.cell
 have froz_x:=x_1.frozen
 have lt_x:=x_1.lt
 have cell_g:=g_1.cell
 have froz_g:=g_1.frozen
 have lt_g:=g_1.lt
 have cell_r:=r_1.cell
 have froz_r:=r_1.frozen
 have lt_r:=r_1.lt
 go_wp2_with fail
 refine calls_forget0 (W:=w1) ?_ ?_
 (focus (exact belBy))
 intro X2 hX2
 have sX2:=hX2.size
 refine (HK.out _ ((HG.out.below (b_1.trans (hX2.mono (by omega)))).more (by omega)) ((HO.out.below (b_1.trans (hX2.mono (by omega)))).more (by omega)) ((HZ.out.below (b_1.trans (hX2.mono (by omega)))).more (by omega)) ((Cells.of_own HT.out |>.below (b_1.trans (hX2.mono (by omega)))).more (by omega))).mono ?_
 rintro e w2 ⟨rfl,hb2⟩
 have s2:=hb2.size
 have hT2:=hX2.trans (hb2.mono sX2)
 have b_2:=b_1.trans (hT2.mono (by omega))
 have to_2:=own_below to_1 hT2
 have x_2:=Blk.past hT2 x_1
 have g_2:=Blk.past hT2 g_1
 have r_2:=Blk.past hT2 r_1
 clear to_1 x_1 g_1 r_1 b_1 cell_x froz_x lt_x cell_g froz_g lt_g cell_r froz_r lt_r hX2 hT2 hb2
 have cell_x:=x_2.cell
 have froz_x:=x_2.frozen
 have lt_x:=x_2.lt
 have cell_g:=g_2.cell
 have froz_g:=g_2.frozen
 have lt_g:=g_2.lt
 have cell_r:=r_2.cell
 have froz_r:=r_2.frozen
 have lt_r:=r_2.lt
 go_upto_region 3 with fail
 refine wp_forget0 (w0:=w2) (B:=w2.heap.size) ?_ ?_
 (focus (exact belBy))
 intro w3 hX3
 have sX3:=hX3.size
 have b_3:=b_2.trans (hX3.mono (by omega))
 have to_3:=own_below to_2 hX3
 have x_3:=Blk.past hX3 x_2
 have g_3:=Blk.past hX3 g_2
 have r_3:=Blk.past hX3 r_2
 clear to_2 x_2 g_2 r_2 b_2 cell_x froz_x lt_x cell_g froz_g lt_g cell_r froz_r lt_r hX3
 have cell_x:=x_3.cell
 have froz_x:=x_3.frozen
 have lt_x:=x_3.lt
 have cell_g:=g_3.cell
 have froz_g:=g_3.frozen
 have lt_g:=g_3.lt
 have cell_r:=r_3.cell
 have froz_r:=r_3.frozen
 have lt_r:=r_3.lt
 have HTO:=hid to_3
 have HNL:=hid (And.intro (own_nil to_3) to_3.1)
 have HX3:=hid (And.intro x_3 (And.intro g_3 (And.intro r_3 b_3)))
 have HLIT:=hid (lit_made (w:=w3) (base:=w.heap.size) (e:=3) (size:=1) b_3.size)
 have z3:=b_3.size
 clear to_3 to_in x_3 r_3 b_3 cell_x froz_x lt_x cell_r froz_r lt_r
 go_wp2_with (at_builtin; refine wpList_copy Tryz.underlying30 infoI rfl (by decide) rfl rfl rfl rfl HLIT.out HNL.out.2 ((Cells.of_own HTO.out).below ((Below.refl _ _).alloc (Nat.le_refl _) _)) HNL.out.1 (ints_one _) (by omega) (by decide) (by simp; omega) ?_; intro A' c' w4 ta_4 hb4)
 have hb5:Below w3.heap.size w3 w4:=((Below.refl w3.heap.size w3).alloc (Nat.le_refl _) _).trans (hb4.mono (by simp))
 have z4:=hb5.size
 have HTA:=hid ta_4
 have HX4:=hid (And.intro (HX3.out.1.past hb5) (And.intro (HX3.out.2.1.past hb5) (And.intro (HX3.out.2.2.1.past hb5) (HX3.out.2.2.2.trans (hb5.mono z3)))))
 clear ta_4 hb4 hb5 HX3 HLIT HNL HTO g_3 cell_g froz_g lt_g
 go_upto_region 4 with fail
 obtain ⟨bp,hbp⟩:∃ n,w4.heap.size=n:=⟨_,rfl⟩
 apply wp_forget1 (w0:=w4) (B:=w4.heap.size) (b0:=w4.heap.size) (t0:=TPb) (c0:=#[.slice A' ts.length c',.slice none 0 0,.slice none 0 0])
 focus exact blkcBy2
 focus (exact belBy)
 intro w5 p_5 hb5
 have z5:=hb5.size
 rw [hbp] at p_5
 have H4:=hid (show PubM w w.heap.size (w.heap.size + 1) (w.heap.size + 2) bp #[.slice G gs.length cg,.slice O os.length co] #[.int .i64 d,.slice Z zs.length cz,.slice T ts.length ct] #[.slice none 0 0,.slice none 0 0,.slice none 0 0] ts [] [] A' c' none 0 none 0 w5 from
  ⟨HX4.out.1.past hb5,HX4.out.2.1.past hb5,HX4.out.2.2.1.past hb5,p_5,own_below (own_weak HTA.out (Nat.le_refl _)) hb5,own_none,own_none,(fun q _ hp=>by cases hp),(fun q _ hp=>by cases hp),(fun q hq=>by cases hq),HX4.out.2.2.2.trans (hb5.mono (by omega)),by omega,by have:=HX4.out.2.2.1.lt; omega⟩)
 rw [hbp]
 clear p_5 hb5 hbp HX4 HTA
 go_wp2_with fail
 go_loopw [7] (fun i wr=>∃ (j kk:Nat) (K:Option Addr),j≤gs.length∧i=.int .i64 (j:Int)∧PubM w w.heap.size (w.heap.size + 1) (w.heap.size + 2) bp #[.slice G gs.length cg,.slice O os.length co] #[.int .i64 d,.slice Z zs.length cz,.slice T ts.length ct] #[.slice none 0 0,.slice none 0 0,.slice none 0 0] ts (conTo d zs gs j) [] A' c' K kk none 0 wr) (fun i _=>gs.length - (intOf i).toNat)
 case atStart=>exact ⟨0,0,none,Nat.zero_le _,rfl,H4.out⟩
 case round =>
  clear H4
  obtain ⟨j,kk,K,hj,rfl,hI⟩:=hrel
  have hkl:=conTo_len d zs gs j
  by_cases hlt:j < gs.length
  ·obtain ⟨⟨k,x,y⟩,hx⟩:∃ s,gs[j]? = some s:=⟨_,List.getElem?_eq_getElem hlt⟩
   have hgv:=gatesB_at HV.out hx
   rw [Nat.zero_add] at hgv
   have hst:=con_step (d:=d) (zs:=zs) hx
   obtain ⟨bG,og,rfl,hBg,d0,d1,d2⟩:=gt_cells HG.out hI.bl hx
   obtain ⟨ks,hks⟩:∃ c,conTo d zs gs j=c:=⟨_,rfl⟩
   rw [hks] at hI hkl hst
   have hzx:zs[j]? = some (zs.getD j 0):=by rw [List.getD_eq_getElem?_getD,List.getElem?_eq_getElem (by omega)]; rfl
   unfold conP at hst
   dsimp only at hst
   have hbs:=hI.bl.size
   have hlt':(j:Int) < (gs.length:Int):=by omega
   have hlz':(j:Int) < (zs.length:Int):=by omega
   have j00:(0:Int)≤(j:Int):=by omega
   have hb1:ks.length + 1≤1000000:=by omega
   clear hx hks hkl
   have cell_x:=hI.c.cell
   have lt_x:=hI.c.lt
   have cell_g:=hI.g.cell
   have lt_g:=hI.g.lt
   have HI3:=hid hI
   have HD:=hid (And.intro d0 d1)
   clear hI
   obtain ⟨bz,oz,rfl,hBz,hcz⟩:=Cells.at_ (HZ.out.below HI3.out.bl) (ints_get hzx)
   have fz:=hcz _ _ (ints_get hzx)
   have hlz:=HL.out _ (List.mem_of_getElem? hzx)
   obtain ⟨z,hzd⟩:∃ z,zs.getD j 0=z:=⟨_,rfl⟩
   rw [hzd] at fz hlz hst
   clear hcz hzx hzd
   by_cases hk:k=2
   ·subst hk
    have ha2:=(gate_is2 hgv rfl).1
    dsimp only at ha2
    have ha:=inB_iff.2 (show 0≤x∧x≤1 by omega)
    clear ha2
    have HS:=hid (hst.trans (show _=ks ++ [lblI z d x] from rfl))
    have HFZ:=hid fz
    clear hst hgv fz
    go_upto_region 8 with fail
    have qx:=fun (X:Later wr) (o:Nat)=>(HI3.out.c.past X.below).cell o
    have qg:=fun (X:Later wr) (o:Nat)=>(HI3.out.g.past X.below).cell o
    have qp:=fun (X:Later wr) (o:Nat)=>(HI3.out.p.past X.below).cell o
    have q0:=fun (X:Later wr)=>(X.below.cell (p:=⟨bG,og + j * 3,none⟩) (by dsimp only; omega)).trans HD.out.1
    have q1:=fun (X:Later wr)=>(X.below.cell (p:=⟨bG,og + j * 3 + 1,none⟩) (by dsimp only; omega)).trans HD.out.2
    have qz:=fun (X:Later wr)=>(X.below.cell (p:=⟨bz,oz + j,none⟩) (by dsimp only; omega)).trans HFZ.out
    refine wp_grow_tails (W:=wr) (spec:=specAt [(15,.con (.int .i64 (lblI z d x))),(16,.any (RowOf wr.heap.size 3 1 1 [.int .i64 (lblI z d x)]))]) 17 (by kernel_rfl) (by kernel_rfl) (Onward.mk' ((Below.refl _ _).drew)) (specAt_stab ?_) ?_
    ·intro p hp F hF
     simp only [List.mem_cons,List.not_mem_nil,or_false] at hp
     rcases hp with rfl | rfl
     all_goals first | (cases hF; done) | (injection hF with hF; subst hF; exact RowOf.stable)
    refine gList_quietK 15 ⟨rfl,rfl,rfl,rfl,rfl,rfl,rfl,rfl,rfl,rfl,rfl,rfl,rfl,rfl,rfl,rfl,rfl,rfl,rfl,rfl,rfl,rfl,rfl,rfl,rfl,rfl,rfl,rfl,rfl,rfl,trivial⟩ (by decide) ?_
    delta Onward
    dsimp only [List.take,List.drop]
    repeat (go_big_quiet_step (fail))
    refine wpQuiet_nil ?_
    refine gList_con (.int .i64 (lblI z d x)) rfl rfl (fun w' hC _=>?_) ?_
    ·obtain ⟨⟨w',hb⟩,rfl⟩:=hC
     exact grow_con (by simp [go_sem]) (sLabelFor z d x _ hlz hdl ha)
    simp only [Act.put,List.setIfInBounds_toArray,List.set_cons_succ,List.set_cons_zero]
    refine gList_any (RowOf wr.heap.size 3 1 1 [.int .i64 (lblI z d x)]) rfl rfl (fun w' hC hd=>?_) (fun vr=>?_)
    ·obtain ⟨⟨w',hb⟩,rfl⟩:=hC
     exact grow_lit1i rfl rfl (fun w=>litInt _ w) hb.size
    unfold gList
    intro w' hW hfs
    have hlast:RowOf wr.heap.size 3 1 1 [.int .i64 (lblI z d x)] vr w':=hfs 16
    obtain ⟨⟨w32,hb⟩,rfl⟩:=hW
    obtain ⟨A7,c7,rfl,h7⟩:=hlast
    obtain ⟨g7,rfl,_,_,_⟩:=own_at h7 (by omega)
    have s32:=hb.size
    have H7:=hid (row_cells (show Row _ g7 _ 1 1 c7 _ from own_weak h7 (Nat.zero_le _)))
    have HW:=hid (HI3.out.below hb)
    have hw32:=HW.out.bl.size
    clear qx qg qp qz hfs hb h7 HFZ q0 q1
    dsimp only [List.drop]
    simp only [Act.put,List.setIfInBounds_toArray,List.set_cons_succ,List.set_cons_zero]
    have hko:=HW.out.k
    have hne1:=hid (own_ne_obj HW.out.k HW.out.p (by decide))
    go_wp2_with (at_builtin; refine app_ints rfl _ _ rfl (base:=w.heap.size) (L:=ks) (v:=Value.slice K ks.length kk) rfl hko (by omega) [lblI z d x] rfl rfl H7.out hb1 ?_)
    intro A1 k1 w8 ho8 hg8 hl8
    have kx8:=gr_blk hg8 HW.out.p hne1.out
    have cell_8:=kx8.cell
    have froz_8:=kx8.frozen
    have lt_8:=kx8.lt
    have HF:=hid (PubM.con HW.out (Below.refl _ _) ho8 hg8 (fun q hq=>(hl8 q hq).imp id (fun e=>by omega)))
    clear ho8 hg8 hl8 kx8 hko hne1
    go_wp2
    go_roundw
    case rel=>exact ⟨j + 1,k1,A1,by omega,by go_num,by rw [HS.out]; exact HF.out⟩
    case measure=>simp [intOf]; omega
   ·have HS:=hid (hst.trans (show _=ks by rw [if_neg (by simpa using hk),List.append_nil]))
    have hk':(k == 2)=false:=by simpa using hk
    clear hst hgv
    go_wp2
    go_roundw
    case rel=>exact ⟨j + 1,kk,K,by omega,by go_num,by rw [HS.out]; exact HI3.out⟩
    case measure=>simp [intOf]; omega
  ·obtain rfl:j=gs.length:=by omega
   obtain ⟨ks,hks⟩:∃ c,conTo d zs gs gs.length=c:=⟨_,rfl⟩
   rw [hks] at hI
   have HKS:=hid hks
   have H5:=hid hI
   clear hks
   have cell_x:=hI.c.cell
   have lt_x:=hI.c.lt
   clear hI hkl
   go_wp2_with fail
   clear cell_x lt_x
   go_loopw [8] (fun i wr=>∃ (j kd:Nat) (D:Option Addr),j≤os.length∧i=.int .i64 (j:Int)∧PubM w w.heap.size (w.heap.size + 1) (w.heap.size + 2) bp #[.slice G gs.length cg,.slice O os.length co] #[.int .i64 d,.slice Z zs.length cz,.slice T ts.length ct] #[.slice none 0 0,.slice none 0 0,.slice none 0 0] ts ks (decL zs (os.take j)) A' c' K kk D kd wr) (fun i _=>os.length - (intOf i).toNat)
   case atStart=>exact ⟨0,0,none,Nat.zero_le _,rfl,H5.out⟩
   case round =>
    clear H5
    obtain ⟨j,kd,D,hj,rfl,hI⟩:=hrel
    have cell_x:=hI.c.cell
    have lt_x:=hI.c.lt
    have hdl:(decL zs (os.take j)).length=j:=by unfold decL; simp; omega
    by_cases hlt2:j < os.length
    ·obtain ⟨x,hx⟩:∃ s,os[j]? = some s:=⟨_,List.getElem?_eq_getElem hlt2⟩
     have hxw:=wireB_iff.1 (outs_wire HW.out x (List.mem_of_getElem? hx))
     obtain ⟨x,rfl⟩:=Int.eq_ofNat_of_zero_le hxw.1
     have hst:=dec_step (zs:=zs) hx
     obtain ⟨bo,oo,rfl,hBo,hco⟩:=Cells.at_ (HO.out.below hI.bl) (ints_get hx)
     have d0:=hco _ _ (ints_get hx)
     have hzx:zs[x]? = some (zs.getD x 0):=by rw [List.getD_eq_getElem?_getD,List.getElem?_eq_getElem (by omega)]; rfl
     obtain ⟨bz,oz,rfl,hBz,hcz⟩:=Cells.at_ (HZ.out.below hI.bl) (ints_get hzx)
     have fz:=hcz _ _ (ints_get hzx)
     obtain ⟨z,hzd⟩:∃ z,zs.getD x 0=z:=⟨_,rfl⟩
     have hxn:((x:Nat):Int).toNat=x:=by omega
     rw [hxn,hzd] at hst
     rw [hzd] at fz
     obtain ⟨dd,hdd⟩:∃ c,decL zs (os.take j)=c:=⟨_,rfl⟩
     rw [hdd] at hI hst hdl
     have hbs:=hI.bl.size
     have hlt':(j:Int) < (os.length:Int):=by omega
     have hlz':(x:Int) < (zs.length:Int):=by omega
     have j00:(0:Int)≤(j:Int):=by omega
     have x00:(0:Int)≤(x:Int):=by omega
     have hb1:dd.length + 1≤1000000:=by omega
     have HST:=hid hst
     have HI:=hid hI
     have HFZ:=hid (And.intro fz d0)
     clear hcz hzx hzd hx hdd hst hI hco hxw hxn hdl fz
     go_upto_region 12 with fail
     clear d0
     have qx:=fun (X:Later wr) (o:Nat)=>(HI.out.c.past X.below).cell o
     have qg:=fun (X:Later wr) (o:Nat)=>(HI.out.g.past X.below).cell o
     have qp:=fun (X:Later wr) (o:Nat)=>(HI.out.p.past X.below).cell o
     have qz:=fun (X:Later wr)=>(X.below.cell (p:=⟨bz,oz + x,none⟩) (by dsimp only; omega)).trans HFZ.out.1
     have q0:=fun (X:Later wr)=>(X.below.cell (p:=⟨bo,oo + j,none⟩) (by dsimp only; omega)).trans HFZ.out.2
     refine wp_grow_tails (W:=wr) (spec:=specAt [(12,.any (RowOf wr.heap.size 3 1 1 [.int .i64 (bits .and .i64 z 1)]))]) 13 (by kernel_rfl) (by kernel_rfl) (Onward.mk' ((Below.refl _ _).drew)) (specAt_stab ?_) ?_
     ·intro p hp F hF
      simp only [List.mem_cons,List.not_mem_nil,or_false] at hp
      rcases hp with rfl
      all_goals first | (cases hF; done) | (injection hF with hF; subst hF; exact RowOf.stable)
     refine gList_quietK 12 ⟨rfl,rfl,rfl,rfl,rfl,rfl,rfl,rfl,rfl,rfl,rfl,rfl,rfl,rfl,rfl,rfl,rfl,rfl,rfl,rfl,rfl,rfl,rfl,rfl,trivial⟩ (by decide) ?_
     delta Onward
     dsimp only [List.take,List.drop]
     repeat (go_big_quiet_step (fail))
     refine wpQuiet_nil ?_
     refine gList_any (RowOf wr.heap.size 3 1 1 [.int .i64 (bits .and .i64 z 1)]) rfl rfl (fun w' hC hd=>?_) (fun vr=>?_)
     ·obtain ⟨⟨w',hb⟩,rfl⟩:=hC
      exact grow_lit1i rfl rfl (fun w=>litInt _ w) hb.size
     unfold gList
     intro w' hW hfs
     have hlast:RowOf wr.heap.size 3 1 1 [.int .i64 (bits .and .i64 z 1)] vr w':=hfs 12
     obtain ⟨⟨w32,hb⟩,rfl⟩:=hW
     obtain ⟨A7,c7,rfl,h7⟩:=hlast
     obtain ⟨g7,rfl,_,_,_⟩:=own_at h7 (by omega)
     have s32:=hb.size
     have H7:=hid (row_cells (show Row _ g7 _ 1 1 c7 _ from own_weak h7 (Nat.zero_le _)))
     have HX:=hid (HI.out.below hb)
     have hw32:=HX.out.bl.size
     clear qx qg qp qz q0 hfs hb h7 HFZ
     dsimp only [List.drop]
     simp only [Act.put,List.setIfInBounds_toArray,List.set_cons_succ,List.set_cons_zero]
     have hko:=HX.out.d
     have hne1:=hid (own_ne_obj HX.out.d HX.out.p (by decide))
     go_wp2_with (at_builtin; refine app_ints rfl _ _ rfl (base:=w.heap.size) (L:=dd) (v:=Value.slice D dd.length kd) rfl hko (by omega) [bits .and .i64 z 1] rfl rfl H7.out hb1 ?_)
     intro A1 k1 w8 ho8 hg8 hl8
     have kx8:=gr_blk hg8 HX.out.p hne1.out
     have cell_8:=kx8.cell
     have froz_8:=kx8.frozen
     have lt_8:=kx8.lt
     have HF:=hid (PubM.dec HX.out (Below.refl _ _) ho8 hg8 (fun q hq=>(hl8 q hq).imp id (fun e=>by omega)))
     clear ho8 hg8 hl8 kx8 hko hne1 cell_x lt_x
     go_wp2
     go_roundw
     case rel=>exact ⟨j + 1,k1,A1,by omega,by go_num,by rw [HST.out]; exact HF.out⟩
     case measure=>simp [intOf]; omega
    ·obtain rfl:j=os.length:=by omega
     rw [List.take_length] at hI hdl
     have hbk:=hI.p
     have cell_p:=hbk.cell
     have froz_p:=hbk.frozen
     have lt_p:=hbk.lt
     have cell_r:=hI.r.cell
     have froz_r:=hI.r.frozen
     have lt_r:=hI.r.lt
     have hne:bp≠w.heap.size + 2:=hI.hr.symm
     have hne2:w.heap.size + 2≠bp:=hI.hr
     have HI:=hid hI
     clear hI hbk hdl
     go_wp2
     ((try simp only [Exit.inBlock,Exit.then]); apply bodyPost_ret0; focus ((try simp only [results,Tryz.results132]); (try go_simp); (try rfl)))
     have hks:=HKS.out
     subst hks
     exact HI.out.give (by exact tchBy) (by omega)
open Go.RowKit
theorem wordsL_take {xs:List Int} {k:Nat} (h:4 * k + 4≤xs.length):wordsL (xs.take (4 * k + 4))=wordsL (xs.take (4 * k)) ++ [xs.getD (4 * k) 0 + 2 * xs.getD (4 * k + 1) 0 + 4 * xs.getD (4 * k + 2) 0 + 8 * xs.getD (4 * k + 3) 0]:=by
 have hg:∀ j,j < xs.length→xs[j]? = some (xs.getD j 0):=fun j hj=>by rw [List.getD_eq_getElem?_getD,List.getElem?_eq_getElem hj]; rfl
 have ht:∀ j,j < xs.length→xs.take (j + 1)=xs.take j ++ [xs.getD j 0]:=fun j hj=>take_snoc (hg j hj)
 rw [show 4 * k + 4=4 * k + 3 + 1 by omega,ht _ (by omega),show 4 * k + 3=4 * k + 2 + 1 by omega,ht _ (by omega),show 4 * k + 2=4 * k + 1 + 1 by omega,ht _ (by omega),ht _ (by omega)]
 simp only [List.append_assoc,List.cons_append,List.nil_append]
 exact wordsL_app4 _ _ _ _ k _ (by rw [List.length_take]; omega)
theorem wordsL_len:∀ (k:Nat) (l:List Int),l.length=4 * k→(wordsL l).length=k
 | 0,l,h=>by
  have:l=[]:=List.eq_nil_of_length_eq_zero (by omega)
  subst this
  rfl
 | k + 1,l,h=>by
  match l,h with
  | a :: b :: c :: d :: r,h=>simp only [wordsL,List.length_cons,wordsL_len k r (by simp at h; omega)]
open Go.RowKit
set_option linter.unusedVariables false in
set_option maxRecDepth 100000 in
set_option maxHeartbeats 3200000 in
theorem iWordsOf (A:Option Addr) (c m:Nat) (xs:List Int) (w:World) (hc:Cells w w.heap.size A (ints xs)) (hb:bitsB xs=true) (h4:xs.length=4 * m) (hm:m≤100000) :
  Calls Tryz.prog 54 #[.slice A xs.length c] w fun e w'=>∃ A' c',e=.returned (.slice A' m c')∧w'.ownsRow w.heap.size 3 1 (.slice A' m c') m (ints (wordsL xs))∧Below w.heap.size w w':=by
 have HC:=hid hc
 have HBX:=hid hb
 have HB:=hid (fun w hc=>iBits A c xs w hc (by omega))
 rw [hb] at HB
 skip
 obtain ⟨N,hN⟩:∃ n,xs.length=n:=⟨_,rfl⟩
 have hr4:((N:Nat):Int).tmod 4=0:=by rw [Int.tmod_eq_emod_of_nonneg (by omega)]; omega
 have hNm:N=4 * m:=by omega
 rw [hN] at HB ⊢
 have HNM:=hid (And.intro hN hNm)
 have hN4:N≤400000:=by omega
 clear h4 hc hb hN hNm
 go_enter Tryz.func54,Tryz.ntmps54
 go_wp2_with fail
 refine Calls.mono (HB.out _ HC.out) ?_
 rintro e w' ⟨rfl,rfl⟩
 go_wp2_with fail
 clear hr4
 go_loopw [3,4] (fun o i wr=>∃ (k:Nat) (A':Option Addr) (c':Nat),k≤m∧i=.int .i64 ((4 * k:Nat):Int)∧o=.slice A' k c'∧wr.ownsRow w.heap.size 3 1 (.slice A' k c') k (ints (wordsL (xs.take (4 * k))))∧Below w.heap.size w wr) (fun _ i _=>N - (intOf i).toNat)
 case atStart=>exact ⟨0,some ⟨w.heap.size,0,none⟩,0,Nat.zero_le _,rfl,rfl,own_lit (size:=1) #[] 0 rfl (Nat.le_refl _) (Nat.zero_le _) rfl,(Below.refl _ _).alloc (Nat.le_refl _) _⟩
 case round =>
  obtain ⟨k,A',c',hk,rfl,rfl,hown,hbw⟩:=hrel
  have zw:=hbw.size
  by_cases hlt:k < m
  ·have hN1:=HNM.out.1
   have hN2:=HNM.out.2
   have hg:∀ j,j < N→xs[j]? = some (xs.getD j 0):=fun j hj=>by rw [List.getD_eq_getElem?_getD,List.getElem?_eq_getElem (by omega)]; rfl
   have hstep:=wordsL_take (xs:=xs) (k:=k) (by omega)
   have hbit:∀ j,j < N→0≤xs.getD j 0∧xs.getD j 0≤1:=fun j hj=>inB_iff.1 (bitsB_get HBX.out (hg j hj))
   obtain ⟨b,off,e,hBb,hcl⟩:=Cells.at_ (HC.out.below hbw) (ints_get (hg 0 (by omega)))
   subst e
   obtain ⟨q,hq⟩:∃ q,4 * k=q:=⟨_,rfl⟩
   rw [hq] at hstep hown ⊢
   have d0:wr.cell? ⟨b,off + q,none⟩=_:=hcl _ _ (ints_get (hg q (by omega)))
   have d1:wr.cell? ⟨b,off + (q + 1),none⟩=_:=hcl _ _ (ints_get (hg (q + 1) (by omega)))
   have d2:wr.cell? ⟨b,off + (q + 2),none⟩=_:=hcl _ _ (ints_get (hg (q + 2) (by omega)))
   have d3:wr.cell? ⟨b,off + (q + 3),none⟩=_:=hcl _ _ (ints_get (hg (q + 3) (by omega)))
   have b0:=hbit q (by omega)
   have b1:=hbit (q + 1) (by omega)
   have b2:=hbit (q + 2) (by omega)
   have b3:=hbit (q + 3) (by omega)
   obtain ⟨x0,y0⟩:∃ x,xs.getD q 0=x:=⟨_,rfl⟩
   obtain ⟨x1,y1⟩:∃ x,xs.getD (q + 1) 0=x:=⟨_,rfl⟩
   obtain ⟨x2,y2⟩:∃ x,xs.getD (q + 2) 0=x:=⟨_,rfl⟩
   obtain ⟨x3,y3⟩:∃ x,xs.getD (q + 3) 0=x:=⟨_,rfl⟩
   rw [y0] at d0 b0 hstep
   rw [y1] at d1 b1 hstep
   rw [y2] at d2 b2 hstep
   rw [y3] at d3 b3 hstep
   have hqN:(q:Int) + 3 < (N:Int):=by omega
   have hqN0:(q:Int) < (N:Int):=by omega
   have hqN1:(q:Int) + 1 < (N:Int):=by omega
   have hqN2:(q:Int) + 2 < (N:Int):=by omega
   have q00:(0:Int)≤(q:Int):=by omega
   have t2:((q:Int) + 2).toNat=q + 2:=by omega
   have t3:((q:Int) + 3).toNat=q + 3:=by omega
   have q01:(0:Int)≤(q:Int) + 1:=by omega
   have q02:(0:Int)≤(q:Int) + 2:=by omega
   have q03:(0:Int)≤(q:Int) + 3:=by omega
   have hb1:k + 1≤1000000:=by omega
   have HST:=hid (And.intro hstep (And.intro hown (And.intro hbw hq)))
   clear hstep hbw hbit hg hcl y0 y1 y2 y3 hN1 hN2 hq
   have HSK:=hid (show ∀ w',Below w.heap.size wr w'→w'.cell? ⟨b,off + q,none⟩=some (.int .i64 x0)∧w'.cell? ⟨b,off + (q + 1),none⟩=some (.int .i64 x1)∧w'.cell? ⟨b,off + (q + 2),none⟩=some (.int .i64 x2)∧w'.cell? ⟨b,off + (q + 3),none⟩=some (.int .i64 x3) from fun w' h=>⟨(h.cell (p:=⟨b,off + q,none⟩) (by dsimp only; omega)).trans d0,(h.cell (p:=⟨b,off + (q + 1),none⟩) (by dsimp only; omega)).trans d1,(h.cell (p:=⟨b,off + (q + 2),none⟩) (by dsimp only; omega)).trans d2,(h.cell (p:=⟨b,off + (q + 3),none⟩) (by dsimp only; omega)).trans d3⟩)
   have v1:IntKind.i64.wrap (2 * x1)=2 * x1:=IntWalk.i64_in _ (by omega)
   have v2:IntKind.i64.wrap (x0 + 2 * x1)=x0 + 2 * x1:=IntWalk.i64_in _ (by omega)
   have v3:IntKind.i64.wrap (4 * x2)=4 * x2:=IntWalk.i64_in _ (by omega)
   have v4:IntKind.i64.wrap (x0 + 2 * x1 + 4 * x2)=x0 + 2 * x1 + 4 * x2:=IntWalk.i64_in _ (by omega)
   have v5:IntKind.i64.wrap (8 * x3)=8 * x3:=IntWalk.i64_in _ (by omega)
   have v6:IntKind.i64.wrap (x0 + 2 * x1 + 4 * x2 + 8 * x3)=x0 + 2 * x1 + 4 * x2 + 8 * x3:=IntWalk.i64_in _ (by omega)
   have u1:IntKind.i64.wrap ((q:Int) + 1)=(q:Int) + 1:=IntWalk.i64_in _ (by omega)
   have u2:IntKind.i64.wrap ((q:Int) + 2)=(q:Int) + 2:=IntWalk.i64_in _ (by omega)
   have u3:IntKind.i64.wrap ((q:Int) + 3)=(q:Int) + 3:=IntWalk.i64_in _ (by omega)
   go_wp2_with fail
   go_region_held3 (fun w'=>w'.cell? ⟨b,off + q,none⟩=some (.int .i64 x0)∧w'.cell? ⟨b,off + (q + 1),none⟩=some (.int .i64 x1)∧w'.cell? ⟨b,off + (q + 2),none⟩=some (.int .i64 x2)∧w'.cell? ⟨b,off + (q + 3),none⟩=some (.int .i64 x3)) (exact HSK.out _ (by exact belBy)) (first | (refine step_int_any (base:=w.heap.size) (L:=wordsL (xs.take q)) rfl (.tmp 21) (.tmp 47) rfl (v:=Value.slice A' k c') rfl ?_ ?_ [x0 + 2 * x1 + 4 * x2 + 8 * x3] rfl rfl ?_ (by decide) hb1 ?_; (focus (exact ownBy)); (focus (first | omega | (simp; omega))); (focus (exact top_cells _ [_] _)); intro g' c5 w5 ho5 hg5 hl5; have hb5:=gr_below hg5 (show Below w.heap.size wr _ by exact belBy) (by simp; omega) (fun p hp=>by have:=(own_in hown p hp).1; omega)))
   all_goals
    have HF:=hid (And.intro ho5 hb5)
    clear ho5 hg5 hl5 hb5 d0 d1 d2 d3
    go_wp2
    go_roundw
    case rel =>
     have e4:4 * (k + 1)=q + 4:=by have:=HST.out.2.2.2; omega
     exact ⟨k + 1,some ⟨g',0,none⟩,c5,by omega,congrArg (Value.int .i64) (by rw [e4]; omega),rfl,by rw [e4,HST.out.1]; exact HF.out.1,HST.out.2.2.1.trans HF.out.2⟩
    case measure=>simp [intOf]; omega
  ·obtain rfl:k=m:=by omega
   have hN1:=HNM.out.1
   have hN2:=HNM.out.2
   rw [show 4 * k=N by omega,←hN1,List.take_length] at hown
   have HF:=hid (And.intro hown hbw)
   have hlt2:¬ ((4 * k:Nat):Int) < (N:Int):=by omega
   clear hown hbw hN1 hN2
   go_wp2
   go_ret
   exact ⟨A',c',rfl,HF.out.1,HF.out.2⟩
set_option linter.unusedVariables false in
set_option maxRecDepth 100000 in
set_option maxHeartbeats 3200000 in
theorem sWordsOf (A:Option Addr) (c m:Nat) (xs:List Int) (w:World) (hc:Cells w w.heap.size A (ints xs)) (hb:bitsB xs=true) (h4:xs.length=4 * m) (hm:m≤100000) :
  Calls Tryz.prog 77 #[.slice A xs.length c] w fun e w'=>∃ A' c',e=.returned (.slice A' m c')∧w'.ownsRow w.heap.size 3 1 (.slice A' m c') m (ints (wordsL xs))∧Below w.heap.size w w':=by
 have HC:=hid hc
 have HBX:=hid hb
 have HB:=hid (fun w hc=>sBits A c xs (xs.length:Int) w hc (by omega))
 rw [hb] at HB
 rw [show ((xs.length:Int) == (xs.length:Int))=true by simp] at HB
 obtain ⟨N,hN⟩:∃ n,xs.length=n:=⟨_,rfl⟩
 have hr4:((N:Nat):Int).tmod 4=0:=by rw [Int.tmod_eq_emod_of_nonneg (by omega)]; omega
 have hNm:N=4 * m:=by omega
 rw [hN] at HB ⊢
 have HNM:=hid (And.intro hN hNm)
 have hN4:N≤400000:=by omega
 clear h4 hc hb hN hNm
 go_enter Tryz.func77,Tryz.ntmps77
 go_wp2_with fail
 refine Calls.mono (HB.out _ (HC.out.step ((Below.refl _ _).alloc (Nat.le_refl _) _))) ?_
 rintro e w' ⟨rfl,rfl⟩
 go_wp2_with fail
 clear hr4
 go_loopw [3,4] (fun o i wr=>∃ (k:Nat) (A':Option Addr) (c':Nat),k≤m∧i=.int .i64 ((4 * k:Nat):Int)∧o=.slice A' k c'∧wr.ownsRow w.heap.size 3 1 (.slice A' k c') k (ints (wordsL (xs.take (4 * k))))∧Below w.heap.size w wr) (fun _ i _=>N - (intOf i).toNat)
 case atStart=>exact ⟨0,some ⟨w.heap.size,0,none⟩,0,Nat.zero_le _,rfl,rfl,own_lit (size:=1) #[] 0 rfl (Nat.le_refl _) (Nat.zero_le _) rfl,(Below.refl _ _).alloc (Nat.le_refl _) _⟩
 case round =>
  obtain ⟨k,A',c',hk,rfl,rfl,hown,hbw⟩:=hrel
  have zw:=hbw.size
  by_cases hlt:k < m
  ·have hN1:=HNM.out.1
   have hN2:=HNM.out.2
   have hg:∀ j,j < N→xs[j]? = some (xs.getD j 0):=fun j hj=>by rw [List.getD_eq_getElem?_getD,List.getElem?_eq_getElem (by omega)]; rfl
   have hstep:=wordsL_take (xs:=xs) (k:=k) (by omega)
   have hbit:∀ j,j < N→0≤xs.getD j 0∧xs.getD j 0≤1:=fun j hj=>inB_iff.1 (bitsB_get HBX.out (hg j hj))
   obtain ⟨b,off,e,hBb,hcl⟩:=Cells.at_ (HC.out.below hbw) (ints_get (hg 0 (by omega)))
   subst e
   obtain ⟨q,hq⟩:∃ q,4 * k=q:=⟨_,rfl⟩
   rw [hq] at hstep hown ⊢
   have d0:wr.cell? ⟨b,off + q,none⟩=_:=hcl _ _ (ints_get (hg q (by omega)))
   have d1:wr.cell? ⟨b,off + (q + 1),none⟩=_:=hcl _ _ (ints_get (hg (q + 1) (by omega)))
   have d2:wr.cell? ⟨b,off + (q + 2),none⟩=_:=hcl _ _ (ints_get (hg (q + 2) (by omega)))
   have d3:wr.cell? ⟨b,off + (q + 3),none⟩=_:=hcl _ _ (ints_get (hg (q + 3) (by omega)))
   have b0:=hbit q (by omega)
   have b1:=hbit (q + 1) (by omega)
   have b2:=hbit (q + 2) (by omega)
   have b3:=hbit (q + 3) (by omega)
   obtain ⟨x0,y0⟩:∃ x,xs.getD q 0=x:=⟨_,rfl⟩
   obtain ⟨x1,y1⟩:∃ x,xs.getD (q + 1) 0=x:=⟨_,rfl⟩
   obtain ⟨x2,y2⟩:∃ x,xs.getD (q + 2) 0=x:=⟨_,rfl⟩
   obtain ⟨x3,y3⟩:∃ x,xs.getD (q + 3) 0=x:=⟨_,rfl⟩
   rw [y0] at d0 b0 hstep
   rw [y1] at d1 b1 hstep
   rw [y2] at d2 b2 hstep
   rw [y3] at d3 b3 hstep
   have hqN:(q:Int) + 3 < (N:Int):=by omega
   have hqN0:(q:Int) < (N:Int):=by omega
   have hqN1:(q:Int) + 1 < (N:Int):=by omega
   have hqN2:(q:Int) + 2 < (N:Int):=by omega
   have q00:(0:Int)≤(q:Int):=by omega
   have t2:((q:Int) + 2).toNat=q + 2:=by omega
   have t3:((q:Int) + 3).toNat=q + 3:=by omega
   have q01:(0:Int)≤(q:Int) + 1:=by omega
   have q02:(0:Int)≤(q:Int) + 2:=by omega
   have q03:(0:Int)≤(q:Int) + 3:=by omega
   have hb1:k + 1≤1000000:=by omega
   have HST:=hid (And.intro hstep (And.intro hown (And.intro hbw hq)))
   clear hstep hbw hbit hg hcl y0 y1 y2 y3 hN1 hN2 hq
   have HSK:=hid (show ∀ w',Below w.heap.size wr w'→w'.cell? ⟨b,off + q,none⟩=some (.int .i64 x0)∧w'.cell? ⟨b,off + (q + 1),none⟩=some (.int .i64 x1)∧w'.cell? ⟨b,off + (q + 2),none⟩=some (.int .i64 x2)∧w'.cell? ⟨b,off + (q + 3),none⟩=some (.int .i64 x3) from fun w' h=>⟨(h.cell (p:=⟨b,off + q,none⟩) (by dsimp only; omega)).trans d0,(h.cell (p:=⟨b,off + (q + 1),none⟩) (by dsimp only; omega)).trans d1,(h.cell (p:=⟨b,off + (q + 2),none⟩) (by dsimp only; omega)).trans d2,(h.cell (p:=⟨b,off + (q + 3),none⟩) (by dsimp only; omega)).trans d3⟩)
   have v1:IntKind.i64.wrap (2 * x1)=2 * x1:=IntWalk.i64_in _ (by omega)
   have v2:IntKind.i64.wrap (x0 + 2 * x1)=x0 + 2 * x1:=IntWalk.i64_in _ (by omega)
   have v3:IntKind.i64.wrap (4 * x2)=4 * x2:=IntWalk.i64_in _ (by omega)
   have v4:IntKind.i64.wrap (x0 + 2 * x1 + 4 * x2)=x0 + 2 * x1 + 4 * x2:=IntWalk.i64_in _ (by omega)
   have v5:IntKind.i64.wrap (8 * x3)=8 * x3:=IntWalk.i64_in _ (by omega)
   have v6:IntKind.i64.wrap (x0 + 2 * x1 + 4 * x2 + 8 * x3)=x0 + 2 * x1 + 4 * x2 + 8 * x3:=IntWalk.i64_in _ (by omega)
   have u1:IntKind.i64.wrap ((q:Int) + 1)=(q:Int) + 1:=IntWalk.i64_in _ (by omega)
   have u2:IntKind.i64.wrap ((q:Int) + 2)=(q:Int) + 2:=IntWalk.i64_in _ (by omega)
   have u3:IntKind.i64.wrap ((q:Int) + 3)=(q:Int) + 3:=IntWalk.i64_in _ (by omega)
   go_wp2_with fail
   go_region_held3 (fun w'=>w'.cell? ⟨b,off + q,none⟩=some (.int .i64 x0)∧w'.cell? ⟨b,off + (q + 1),none⟩=some (.int .i64 x1)∧w'.cell? ⟨b,off + (q + 2),none⟩=some (.int .i64 x2)∧w'.cell? ⟨b,off + (q + 3),none⟩=some (.int .i64 x3)) (exact HSK.out _ (by exact belBy)) (first | (refine step_int_any (base:=w.heap.size) (L:=wordsL (xs.take q)) rfl (.tmp 24) (.tmp 50) rfl (v:=Value.slice A' k c') rfl ?_ ?_ [x0 + 2 * x1 + 4 * x2 + 8 * x3] rfl rfl ?_ (by decide) hb1 ?_; (focus (exact ownBy)); (focus (first | omega | (simp; omega))); (focus (exact top_cells _ [_] _)); intro g' c5 w5 ho5 hg5 hl5; have hb5:=gr_below hg5 (show Below w.heap.size wr _ by exact belBy) (by simp; omega) (fun p hp=>by have:=(own_in hown p hp).1; omega)))
   all_goals
    have HF:=hid (And.intro ho5 hb5)
    clear ho5 hg5 hl5 hb5 d0 d1 d2 d3
    go_wp2
    go_roundw
    case rel =>
     have e4:4 * (k + 1)=q + 4:=by have:=HST.out.2.2.2; omega
     exact ⟨k + 1,some ⟨g',0,none⟩,c5,by omega,congrArg (Value.int .i64) (by rw [e4]; omega),rfl,by rw [e4,HST.out.1]; exact HF.out.1,HST.out.2.2.1.trans HF.out.2⟩
    case measure=>simp [intOf]; omega
  ·obtain rfl:k=m:=by omega
   have hN1:=HNM.out.1
   have hN2:=HNM.out.2
   rw [show 4 * k=N by omega,←hN1,List.take_length] at hown
   have HF:=hid (And.intro hown hbw)
   have hlt2:¬ ((4 * k:Nat):Int) < (N:Int):=by omega
   clear hown hbw hN1 hN2
   go_wp2
   go_ret
   exact ⟨A',c',rfl,HF.out.1,HF.out.2⟩
end Go.Proofs.YtihbaieiempjeaaGreat
