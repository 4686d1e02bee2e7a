/- Lemmas of the proof: PubI, Trans, Trans2, Trans4, SecX, InsI, InsL, Loopless, TopM. -/
import Derived.Test.YtihbaieiempjeaaGreatD0
import Derived.Test.YtihbaieiempjeaaGreatD19
import Derived.Test.YtihbaieiempjeaaGreatD20
import Derived.Test.YtihbaieiempjeaaGreatD1
import Derived.Deep.RegionHeld3
import Derived.Deep.DeepCutAuto
import Derived.BigQuiet
import Derived.Outline
import Derived.Test.YtihbaieiempjeaaGreatD14
import Derived.Test.YtihbaieiempjeaaGreatD5
import Derived.Test.YtihbaieiempjeaaGreatD3
import Derived.Test.YtihbaieiempjeaaGreatHead
namespace Go.Proofs.YtihbaieiempjeaaGreat
open Go.RowKit
theorem grow_lit1i {P:Program} {t e base:Nat} {w:World} {o:Oper} {a:Act} {x:Operand} {v:Value} (ho:o.op=Op.buildSlice t 1 #[(0,x)]) (hv:a.eval x=v)
  (hr:∀ w:World,(Instr.buildSlice t 1 #[(0,v)]).run P w=.ok (.slice (some ⟨w.heap.size,0,none⟩) 1 1) (w.alloc (.cells #[v] e))) (hb:base≤w.heap.size) :
  growUpon P Grows (RowOf base e 1 1 [v]) w ((execOp a.eval o).run P w):=by
 simp [execOp,ho,growUpon,hr,hv,Result.andThen]
 exact ⟨(Below.refl _ _).alloc (Nat.le_refl _) _,_,_,rfl,own_lit #[v] 1 rfl hb (by decide) rfl⟩
theorem litInt (b:Int) (w:World):(Instr.buildSlice 30 1 #[(0,.int .i64 b)]).run Tryz.prog w=.ok (.slice (some ⟨w.heap.size,0,none⟩) 1 1) (w.alloc (.cells #[.int .i64 b] 3)):=by
 simp [go_sem]
theorem con_step {d:Int} {zs:List Int} {gs:List Gt} {j:Nat} {g:Gt} (h:gs[j]? = some g):conTo d zs gs (j + 1)=conTo d zs gs j ++ conP d zs j g:=by
 rw [conTo,List.getD_eq_getElem?_getD,h]
 rfl
theorem conTo_len (d:Int) (zs:List Int) (gs:List Gt):∀ j,(conTo d zs gs j).length≤j
 | 0=>Nat.le_refl _
 | j + 1=>by
  have h:=conTo_len d zs gs j
  rw [conTo,List.length_append]
  unfold conP
  split <;> simp <;> omega
theorem dec_step {zs os:List Int} {i:Nat} {x:Int} (h:os[i]? = some x):decL zs (os.take (i + 1))=decL zs (os.take i) ++ [oneI (zs.getD x.toNat 0)]:=by
 unfold decL
 rw [take_snoc h,List.map_append]
 rfl
set_option linter.unusedVariables false in
set_option maxRecDepth 100000 in
set_option maxHeartbeats 6400000 in
theorem iPublicOf (G O Z T:Option Addr) (cg co cz ct:Nat) (gs:List Gt) (os:List Int) (d:Int) (zs ts:List Int) (w:World) (hg:Cells w w.heap.size G (ints (flatG gs))) (ho:Cells w w.heap.size O (ints os)) (hz:Cells w w.heap.size Z (ints zs)) (ht:w.ownsRow 0 3 1 (.slice T ts.length ct) ts.length (ints ts)) (h:GarOk gs os d zs ts) :
  Calls Tryz.prog 51 #[.agg #[.slice G gs.length cg,.slice O os.length co],.agg #[.int .i64 d,.slice Z zs.length cz,.slice T ts.length ct]] w (GivesP w ts (conTo d zs gs gs.length) (decL zs os)):=by
 obtain ⟨hn6,hgv,hov⟩:=circ_parts h.c
 have HG:=hid hg
 have HO:=hid ho
 have HZ:=hid hz
 have HT:=hid ht
 have HK:=hid (fun w hg ho hz ht=>iGarbledOk G O Z T cg co cz ct gs os d zs ts w hg ho hz ht h)
 have hcn:=cntG_le gs 4
 have htn:=h.tn
 have hzn:=Nat.le_of_eq h.zn.symm
 have hm:=h.m
 have hdl:=h.dl
 have HV:=hid hgv
 have HW:=hid hov
 have HL:=hid h.z
 have ht6:ts.length≤12000:=by omega
 clear hg ho hz h hgv hov hcn htn
 go_enter Tryz.func51,Tryz.ntmps51
 have b_0:=(Below.refl w.heap.size w)
 have s_0:=b_0.size
 have to_in:=own_in ht
 have to_0:=ht
 clear ht
 go_upto_region 1 with fail
 refine wp_forget3 (w0:=w) (B:=w.heap.size) (b0:=w.heap.size) (t0:=40) (c0:=#[.slice G gs.length cg,.slice O os.length co]) (b1:=w.heap.size + 1) (t1:=76) (c1:=#[.int .i64 d,.slice Z zs.length cz,.slice T ts.length ct]) (b2:=w.heap.size + 2) (t2:=80) (c2:=#[.slice none 0 0,.slice none 0 0,.slice none 0 0]) ?_ ?_ ?_ ?_ ?_
 (focus exact blkcBy2)
 (focus exact blkcBy2)
 (focus exact blkcBy2)
 (focus (exact belBy))
 intro w1 x_1 g_1 r_1 hX1
 have sX1:=hX1.size
 have x_lt:=x_1.lt
 have g_lt:=g_1.lt
 have r_lt:=r_1.lt
 have b_1:=b_0.trans (hX1.mono (by omega))
 have to_1:=own_below to_0 hX1
 clear to_0 b_0 hX1
 have cell_x:=x_1.cell
 have froz_x:=x_1.frozen
 have lt_x:=x_1.lt
 have cell_g:=g_1.cell
 have froz_g:=g_1.frozen
 have lt_g:=g_1.lt
 have cell_r:=r_1.cell
 have froz_r:=r_1.frozen
 have lt_r:=r_1.lt
 go_wp2_with fail
 refine calls_forget0 (W:=w1) ?_ ?_
 (focus (exact belBy))
 intro X2 hX2
 have sX2:=hX2.size
 refine (HK.out _ ((HG.out.below (b_1.trans (hX2.mono (by omega)))).more (by omega)) ((HO.out.below (b_1.trans (hX2.mono (by omega)))).more (by omega)) ((HZ.out.below (b_1.trans (hX2.mono (by omega)))).more (by omega)) ((Cells.of_own HT.out |>.below (b_1.trans (hX2.mono (by omega)))).more (by omega))).mono ?_
 rintro e w2 ⟨rfl,hb2⟩
 have s2:=hb2.size
 have hT2:=hX2.trans (hb2.mono sX2)
 have b_2:=b_1.trans (hT2.mono (by omega))
 have to_2:=own_below to_1 hT2
 have x_2:=Blk.past hT2 x_1
 have g_2:=Blk.past hT2 g_1
 have r_2:=Blk.past hT2 r_1
 clear to_1 x_1 g_1 r_1 b_1 cell_x froz_x lt_x cell_g froz_g lt_g cell_r froz_r lt_r hX2 hT2 hb2
 have cell_x:=x_2.cell
 have froz_x:=x_2.frozen
 have lt_x:=x_2.lt
 have cell_g:=g_2.cell
 have froz_g:=g_2.frozen
 have lt_g:=g_2.lt
 have cell_r:=r_2.cell
 have froz_r:=r_2.frozen
 have lt_r:=r_2.lt
 go_wp2_with fail
 refine calls_forget0 (W:=w2) ?_ ?_
 (focus (exact belBy))
 intro X3 hX3
 have sX3:=hX3.size
 refine (iIntsO T ct ts.length ts _ (own_below to_2 hX3) (by omega)).mono ?_
 rintro e w3 ⟨A',c',rfl,ta_3,hb3⟩
 have s3:=hb3.size
 have hT3:=hX3.trans (hb3.mono sX3)
 have b_3:=b_2.trans (hT3.mono (by omega))
 have to_3:=own_below to_2 hT3
 have x_3:=Blk.past hT3 x_2
 have g_3:=Blk.past hT3 g_2
 have r_3:=Blk.past hT3 r_2
 have ta_in:=own_in ta_3
 clear to_2 x_2 g_2 r_2 b_2 cell_x froz_x lt_x cell_g froz_g lt_g cell_r froz_r lt_r hX3 hT3 hb3
 have cell_x:=x_3.cell
 have froz_x:=x_3.frozen
 have lt_x:=x_3.lt
 have cell_g:=g_3.cell
 have froz_g:=g_3.frozen
 have lt_g:=g_3.lt
 have cell_r:=r_3.cell
 have froz_r:=r_3.frozen
 have lt_r:=r_3.lt
 go_upto_region 4 with fail
 refine wp_forget1 (w0:=w3) (B:=w3.heap.size) (b0:=w3.heap.size) (t0:=80) (c0:=#[.slice A' ts.length c',.slice none 0 0,.slice none 0 0]) ?_ ?_ ?_
 (focus exact blkcBy2)
 (focus (exact belBy))
 intro w4 p_4 hX4
 have sX4:=hX4.size
 have p_lt:=p_4.lt
 have b_4:=b_3.trans (hX4.mono (by omega))
 have to_4:=own_below to_3 hX4
 have ta_4:=own_below ta_3 hX4
 have x_4:=Blk.past hX4 x_3
 have g_4:=Blk.past hX4 g_3
 have r_4:=Blk.past hX4 r_3
 clear to_3 ta_3 x_3 g_3 r_3 b_3 cell_x froz_x lt_x cell_g froz_g lt_g cell_r froz_r lt_r hX4
 have cell_x:=x_4.cell
 have froz_x:=x_4.frozen
 have lt_x:=x_4.lt
 have cell_g:=g_4.cell
 have froz_g:=g_4.frozen
 have lt_g:=g_4.lt
 have cell_r:=r_4.cell
 have froz_r:=r_4.frozen
 have lt_r:=r_4.lt
 have cell_p:=p_4.cell
 have froz_p:=p_4.frozen
 have lt_p:=p_4.lt
 obtain ⟨bp,hbp⟩:∃ n,w3.heap.size=n:=⟨_,rfl⟩
 rw [hbp] at p_4
 have H4:=hid (show PubM w w.heap.size (w.heap.size + 1) (w.heap.size + 2) bp #[.slice G gs.length cg,.slice O os.length co] #[.int .i64 d,.slice Z zs.length cz,.slice T ts.length ct] #[.slice none 0 0,.slice none 0 0,.slice none 0 0] ts [] [] A' c' none 0 none 0 w4 from
  ⟨x_4,g_4,r_4,p_4,own_weak ta_4 (by omega),own_none,own_none,(fun q _ hp=>by cases hp),(fun q _ hp=>by cases hp),(fun q hq=>by cases hq),b_4,by omega,by omega⟩)
 rw [hbp]
 clear x_4 g_4 r_4 p_4 ta_4 to_4 ta_in to_in b_4 froz_x cell_g froz_g lt_g cell_r froz_r lt_r cell_p froz_p lt_p hbp
 go_wp2_with fail
 clear cell_x lt_x
 go_loopw [7,8,23] (fun _ _ i wr=>∃ (j kk:Nat) (K:Option Addr),j≤gs.length∧i=.int .i64 (j:Int)∧PubM w w.heap.size (w.heap.size + 1) (w.heap.size + 2) bp #[.slice G gs.length cg,.slice O os.length co] #[.int .i64 d,.slice Z zs.length cz,.slice T ts.length ct] #[.slice none 0 0,.slice none 0 0,.slice none 0 0] ts (conTo d zs gs j) [] A' c' K kk none 0 wr) (fun _ _ i _=>gs.length - (intOf i).toNat)
 case atStart=>exact ⟨0,0,none,Nat.zero_le _,rfl,H4.out⟩
 case round =>
  clear H4
  obtain ⟨j,kk,K,hj,rfl,hI⟩:=hrel
  have hkl:=conTo_len d zs gs j
  by_cases hlt:j < gs.length
  ·obtain ⟨⟨k,x,y⟩,hx⟩:∃ s,gs[j]? = some s:=⟨_,List.getElem?_eq_getElem hlt⟩
   have hgv:=gatesB_at HV.out hx
   rw [Nat.zero_add] at hgv
   have hst:=con_step (d:=d) (zs:=zs) hx
   obtain ⟨bG,og,rfl,hBg,d0,d1,d2⟩:=gt_cells HG.out hI.bl hx
   obtain ⟨ks,hks⟩:∃ c,conTo d zs gs j=c:=⟨_,rfl⟩
   rw [hks] at hI hkl hst
   have hzx:zs[j]? = some (zs.getD j 0):=by rw [List.getD_eq_getElem?_getD,List.getElem?_eq_getElem (by omega)]; rfl
   unfold conP at hst
   dsimp only at hst
   have hbs:=hI.bl.size
   have hlt':(j:Int) < (gs.length:Int):=by omega
   have hlz':(j:Int) < (zs.length:Int):=by omega
   have j00:(0:Int)≤(j:Int):=by omega
   have hb1:ks.length + 1≤1000000:=by omega
   clear hx hks hkl
   have cell_x:=hI.c.cell
   have lt_x:=hI.c.lt
   have cell_g:=hI.g.cell
   have lt_g:=hI.g.lt
   have b_30:=(Below.refl wr.heap.size wr)
   have s_30:=b_30.size
   go_upto_region 7 with fail
   refine wp_forget1 (w0:=wr) (B:=wr.heap.size) (b0:=wr.heap.size) (t0:=96) (c0:=#[.int .i64 k,.int .i64 x,.int .i64 y]) ?_ ?_ ?_
   (focus exact blkcBy2)
   (focus (exact belBy))
   intro w31 q_31 hX31
   have sX31:=hX31.size
   have q_lt:=q_31.lt
   have b_31:=b_30.trans (hX31.mono (by omega))
   clear b_30 hX31
   have cell_q:=q_31.cell
   have froz_q:=q_31.frozen
   have lt_q:=q_31.lt
   have z31:=b_31.size
   have HI3:=hid (hI.below b_31)
   have c0:=cell_q 0
   have c1:=cell_q 1
   dsimp at c0 c1
   have HQ3:=hid q_31
   clear b_31 q_31 hI cell_x lt_x cell_g lt_g
   obtain ⟨bz,oz,rfl,hBz,hcz⟩:=Cells.at_ (HZ.out.below HI3.out.bl) (ints_get hzx)
   have fz:=hcz _ _ (ints_get hzx)
   have hlz:=HL.out _ (List.mem_of_getElem? hzx)
   obtain ⟨z,hzd⟩:∃ z,zs.getD j 0=z:=⟨_,rfl⟩
   rw [hzd] at fz hlz hst
   clear hcz hzx hzd
   by_cases hk:k=2
   ·subst hk
    have ha2:=(gate_is2 hgv rfl).1
    dsimp only at ha2
    have ha:=inB_iff.2 (show 0≤x∧x≤1 by omega)
    clear ha2
    have HS:=hid (hst.trans (show _=ks ++ [lblI z d x] from rfl))
    have HFZ:=hid fz
    clear hst hgv fz
    go_upto_region 8 with fail
    have qx:=fun (X:Later w31) (o:Nat)=>(HI3.out.c.past X.below).cell o
    have qg:=fun (X:Later w31) (o:Nat)=>(HI3.out.g.past X.below).cell o
    have qp:=fun (X:Later w31) (o:Nat)=>(HI3.out.p.past X.below).cell o
    have qq:=fun (X:Later w31) (o:Nat)=>(HQ3.out.past X.below).cell o
    have qz:=fun (X:Later w31)=>(X.below.cell (p:=⟨bz,oz + j,none⟩) (by dsimp only; omega)).trans HFZ.out
    refine wp_grow_tails (W:=w31) (spec:=specAt [(11,.con (.int .i64 (lblI z d x))),(12,.any (RowOf w31.heap.size 3 1 1 [.int .i64 (lblI z d x)]))]) 13 (by kernel_rfl) (by kernel_rfl) (Onward.mk' ((Below.refl _ _).drew)) (specAt_stab ?_) ?_
    ·intro p hp F hF
     simp only [List.mem_cons,List.not_mem_nil,or_false] at hp
     rcases hp with rfl | rfl
     all_goals first | (cases hF; done) | (injection hF with hF; subst hF; exact RowOf.stable)
    refine gList_quietK 11 ⟨rfl,rfl,rfl,rfl,rfl,rfl,rfl,rfl,rfl,rfl,rfl,rfl,rfl,rfl,rfl,rfl,rfl,rfl,rfl,rfl,rfl,rfl,trivial⟩ (by decide) ?_
    delta Onward
    dsimp only [List.take,List.drop]
    repeat (go_big_quiet_step (fail))
    refine wpQuiet_nil ?_
    refine gList_con (.int .i64 (lblI z d x)) rfl rfl (fun w' hC _=>?_) ?_
    ·obtain ⟨⟨w',hb⟩,rfl⟩:=hC
     exact grow_con (by simp [go_sem]) (iLabelFor z d x _ hlz hdl ha)
    simp only [Act.put,List.setIfInBounds_toArray,List.set_cons_succ,List.set_cons_zero]
    refine gList_any (RowOf w31.heap.size 3 1 1 [.int .i64 (lblI z d x)]) rfl rfl (fun w' hC hd=>?_) (fun vr=>?_)
    ·obtain ⟨⟨w',hb⟩,rfl⟩:=hC
     exact grow_lit1i rfl rfl (fun w=>litInt _ w) hb.size
    unfold gList
    intro w' hW hfs
    have hlast:RowOf w31.heap.size 3 1 1 [.int .i64 (lblI z d x)] vr w':=hfs 12
    obtain ⟨⟨w32,hb⟩,rfl⟩:=hW
    obtain ⟨A7,c7,rfl,h7⟩:=hlast
    obtain ⟨g7,rfl,_,_,_⟩:=own_at h7 (by omega)
    have s32:=hb.size
    have H7:=hid (row_cells (show Row _ g7 _ 1 1 c7 _ from own_weak h7 (Nat.zero_le _)))
    have HW:=hid (HI3.out.below hb)
    have hw32:=HW.out.bl.size
    clear qx qg qp qz hfs hb h7 HFZ qq
    dsimp only [List.drop]
    simp only [Act.put,List.setIfInBounds_toArray,List.set_cons_succ,List.set_cons_zero]
    have hko:=HW.out.k
    have hne1:=hid (own_ne_obj HW.out.k HW.out.p (by decide))
    go_wp2_with (at_builtin; refine app_ints rfl _ _ rfl (base:=w.heap.size) (L:=ks) (v:=Value.slice K ks.length kk) rfl hko (by omega) [lblI z d x] rfl rfl H7.out hb1 ?_)
    intro A1 k1 w8 ho8 hg8 hl8
    have kx8:=gr_blk hg8 HW.out.p hne1.out
    have cell_8:=kx8.cell
    have froz_8:=kx8.frozen
    have lt_8:=kx8.lt
    have HF:=hid (PubM.con HW.out (Below.refl _ _) ho8 hg8 (fun q hq=>(hl8 q hq).imp id (fun e=>by omega)))
    clear ho8 hg8 hl8 kx8 hko hne1
    go_wp2
    go_roundw
    case rel=>exact ⟨j + 1,k1,A1,by omega,by go_num,by rw [HS.out]; exact HF.out⟩
    case measure=>simp [intOf]; omega
   ·have HS:=hid (hst.trans (show _=ks by rw [if_neg (by simpa using hk),List.append_nil]))
    have hk':(k == 2)=false:=by simpa using hk
    clear hst hgv
    go_wp2
    go_roundw
    case rel=>exact ⟨j + 1,kk,K,by omega,by go_num,by rw [HS.out]; exact HI3.out⟩
    case measure=>simp [intOf]; omega
  ·obtain rfl:j=gs.length:=by omega
   obtain ⟨ks,hks⟩:∃ c,conTo d zs gs gs.length=c:=⟨_,rfl⟩
   rw [hks] at hI
   have HKS:=hid hks
   have H5:=hid hI
   clear hks
   have cell_x:=hI.c.cell
   have lt_x:=hI.c.lt
   clear hI hkl
   go_wp2_with fail
   clear cell_x lt_x
   go_loopw [10,50] (fun _ i wr=>∃ (j kd:Nat) (D:Option Addr),j≤os.length∧i=.int .i64 (j:Int)∧PubM w w.heap.size (w.heap.size + 1) (w.heap.size + 2) bp #[.slice G gs.length cg,.slice O os.length co] #[.int .i64 d,.slice Z zs.length cz,.slice T ts.length ct] #[.slice none 0 0,.slice none 0 0,.slice none 0 0] ts ks (decL zs (os.take j)) A' c' K kk D kd wr) (fun _ i _=>os.length - (intOf i).toNat)
   case atStart=>exact ⟨0,0,none,Nat.zero_le _,rfl,H5.out⟩
   case round =>
    clear H5
    obtain ⟨j,kd,D,hj,rfl,hI⟩:=hrel
    have cell_x:=hI.c.cell
    have lt_x:=hI.c.lt
    have hdl:(decL zs (os.take j)).length=j:=by unfold decL; simp; omega
    by_cases hlt2:j < os.length
    ·obtain ⟨x,hx⟩:∃ s,os[j]? = some s:=⟨_,List.getElem?_eq_getElem hlt2⟩
     have hxw:=wireB_iff.1 (outs_wire HW.out x (List.mem_of_getElem? hx))
     obtain ⟨x,rfl⟩:=Int.eq_ofNat_of_zero_le hxw.1
     have hst:=dec_step (zs:=zs) hx
     obtain ⟨bo,oo,rfl,hBo,hco⟩:=Cells.at_ (HO.out.below hI.bl) (ints_get hx)
     have d0:=hco _ _ (ints_get hx)
     have hzx:zs[x]? = some (zs.getD x 0):=by rw [List.getD_eq_getElem?_getD,List.getElem?_eq_getElem (by omega)]; rfl
     obtain ⟨bz,oz,rfl,hBz,hcz⟩:=Cells.at_ (HZ.out.below hI.bl) (ints_get hzx)
     have fz:=hcz _ _ (ints_get hzx)
     obtain ⟨z,hzd⟩:∃ z,zs.getD x 0=z:=⟨_,rfl⟩
     have hxn:((x:Nat):Int).toNat=x:=by omega
     rw [hxn,hzd] at hst
     rw [hzd] at fz
     obtain ⟨dd,hdd⟩:∃ c,decL zs (os.take j)=c:=⟨_,rfl⟩
     rw [hdd] at hI hst hdl
     have hbs:=hI.bl.size
     have hlt':(j:Int) < (os.length:Int):=by omega
     have hlz':(x:Int) < (zs.length:Int):=by omega
     have j00:(0:Int)≤(j:Int):=by omega
     have x00:(0:Int)≤(x:Int):=by omega
     have hb1:dd.length + 1≤1000000:=by omega
     have HST:=hid hst
     have HI:=hid hI
     have HFZ:=hid (And.intro fz d0)
     clear hcz hzx hzd hx hdd hst hI hco hxw hxn hdl fz
     go_upto_region 13 with fail
     clear d0
     have qx:=fun (X:Later wr) (o:Nat)=>(HI.out.c.past X.below).cell o
     have qg:=fun (X:Later wr) (o:Nat)=>(HI.out.g.past X.below).cell o
     have qp:=fun (X:Later wr) (o:Nat)=>(HI.out.p.past X.below).cell o
     have qz:=fun (X:Later wr)=>(X.below.cell (p:=⟨bz,oz + x,none⟩) (by dsimp only; omega)).trans HFZ.out.1
     have q0:=fun (X:Later wr)=>(X.below.cell (p:=⟨bo,oo + j,none⟩) (by dsimp only; omega)).trans HFZ.out.2
     refine wp_grow_tails (W:=wr) (spec:=specAt [(8,.any (RowOf wr.heap.size 3 1 1 [.int .i64 (bits .and .i64 z 1)]))]) 9 (by kernel_rfl) (by kernel_rfl) (Onward.mk' ((Below.refl _ _).drew)) (specAt_stab ?_) ?_
     ·intro p hp F hF
      simp only [List.mem_cons,List.not_mem_nil,or_false] at hp
      rcases hp with rfl
      all_goals first | (cases hF; done) | (injection hF with hF; subst hF; exact RowOf.stable)
     refine gList_quietK 8 ⟨rfl,rfl,rfl,rfl,rfl,rfl,rfl,rfl,rfl,rfl,rfl,rfl,rfl,rfl,rfl,rfl,trivial⟩ (by decide) ?_
     delta Onward
     dsimp only [List.take,List.drop]
     repeat (go_big_quiet_step (fail))
     refine wpQuiet_nil ?_
     refine gList_any (RowOf wr.heap.size 3 1 1 [.int .i64 (bits .and .i64 z 1)]) rfl rfl (fun w' hC hd=>?_) (fun vr=>?_)
     ·obtain ⟨⟨w',hb⟩,rfl⟩:=hC
      exact grow_lit1i rfl rfl (fun w=>litInt _ w) hb.size
     unfold gList
     intro w' hW hfs
     have hlast:RowOf wr.heap.size 3 1 1 [.int .i64 (bits .and .i64 z 1)] vr w':=hfs 8
     obtain ⟨⟨w32,hb⟩,rfl⟩:=hW
     obtain ⟨A7,c7,rfl,h7⟩:=hlast
     obtain ⟨g7,rfl,_,_,_⟩:=own_at h7 (by omega)
     have s32:=hb.size
     have H7:=hid (row_cells (show Row _ g7 _ 1 1 c7 _ from own_weak h7 (Nat.zero_le _)))
     have HX:=hid (HI.out.below hb)
     have hw32:=HX.out.bl.size
     clear qx qg qp qz q0 hfs hb h7 HFZ
     dsimp only [List.drop]
     simp only [Act.put,List.setIfInBounds_toArray,List.set_cons_succ,List.set_cons_zero]
     have hko:=HX.out.d
     have hne1:=hid (own_ne_obj HX.out.d HX.out.p (by decide))
     go_wp2_with (at_builtin; refine app_ints rfl _ _ rfl (base:=w.heap.size) (L:=dd) (v:=Value.slice D dd.length kd) rfl hko (by omega) [bits .and .i64 z 1] rfl rfl H7.out hb1 ?_)
     intro A1 k1 w8 ho8 hg8 hl8
     have kx8:=gr_blk hg8 HX.out.p hne1.out
     have cell_8:=kx8.cell
     have froz_8:=kx8.frozen
     have lt_8:=kx8.lt
     have HF:=hid (PubM.dec HX.out (Below.refl _ _) ho8 hg8 (fun q hq=>(hl8 q hq).imp id (fun e=>by omega)))
     clear ho8 hg8 hl8 kx8 hko hne1 cell_x lt_x
     go_wp2
     go_roundw
     case rel=>exact ⟨j + 1,k1,A1,by omega,by go_num,by rw [HST.out]; exact HF.out⟩
     case measure=>simp [intOf]; omega
    ·obtain rfl:j=os.length:=by omega
     rw [List.take_length] at hI hdl
     have hbk:=hI.p
     have cell_p:=hbk.cell
     have froz_p:=hbk.frozen
     have lt_p:=hbk.lt
     have cell_r:=hI.r.cell
     have froz_r:=hI.r.frozen
     have lt_r:=hI.r.lt
     have hne:bp≠w.heap.size + 2:=hI.hr.symm
     have hne2:w.heap.size + 2≠bp:=hI.hr
     have HI:=hid hI
     clear hI hbk hdl
     go_wp2
     ((try simp only [Exit.inBlock,Exit.then]); apply bodyPost_ret0; focus ((try simp only [results,Tryz.results51]); (try go_simp); (try rfl)))
     have hks:=HKS.out
     subst hks
     exact HI.out.give (by exact tchBy) (by omega)
open Go.RowKit
set_option maxHeartbeats 1600000 in
theorem iInputLabels (s a:Int) (A:Option Addr) (c:Nat) (bs:List Int) (w:World) (h1:tapeOkB s a=true) (h2:a≤900000) (hb:bitsB bs=true) (hl:bs.length≤80) (hc:Cells w w.heap.size A (ints bs)) :
  Calls Tryz.prog 94 #[.agg #[.int .i64 s,.int .i64 a],.slice A bs.length c] w (GivesInts w (labsTo s a bs bs.length)):=by
 have h3:decide (900000 < a)=false:=by simp; omega
 have h4:decide (80 < (bs.length:Int))=false:=by simp; omega
 have HD:=hid (fun w=>iDeltaOf s a w h1 h2)
 have HZ:=hid (fun k w h=>iInputZero s a k w h1 h)
 have HBI:=hid (fun (k:Nat) (x:Int) (h:bs[k]? = some x)=>bitsB_get hb h)
 have HBS:=hid (fun w hc=>iBits A c bs w hc (by omega))
 rw [hb] at HBS
 have HC:=hid hc
 clear h2 hb hc
 have hq0:=HC.out
 go_enter Tryz.func94,Tryz.ntmps94
 have b_0:=(Below.refl w.heap.size w)
 have s_0:=b_0.size
 have q_0:=hq0
 clear hq0
 go_wp2_with fail
 refine calls_forget1 (W:=w) (b0:=w.heap.size) (t0:=27) (c0:=#[.int .i64 s,.int .i64 a]) ?_ ?_ ?_
 (focus exact blkcBy)
 (focus (exact belBy))
 intro X1 t_n hX1
 have sX1:=hX1.size
 have t_lt:=t_n.lt
 refine (iTapeOk _ _ _).mono ?_
 rintro e w1 ⟨rfl,hb1⟩
 have s1:=hb1.size
 have hT1:=hX1.trans (hb1.mono sX1)
 have b_1:=b_0.trans (hT1.mono (by omega))
 have q_1:=cells_below q_0 hT1 (by omega)
 have t_1:=Blk.past hb1 t_n
 clear q_0 b_0 t_n hX1 hT1 hb1
 have cell_t:=t_1.cell
 have froz_t:=t_1.frozen
 have lt_t:=t_1.lt
 go_wp2_with fail
 refine calls_forget0 (W:=w1) ?_ ?_
 (focus (exact belBy))
 intro X2 hX2
 have sX2:=hX2.size
 refine (HBS.out _ ((cells_below q_1 hX2 (by omega)).more (by omega))).mono ?_
 rintro e w' ⟨rfl,rfl⟩
 have b_2:=b_1.trans (hX2.mono (by omega))
 have q_2:=cells_below q_1 hX2 (by omega)
 have t_2:=Blk.past hX2 t_1
 clear q_1 t_1 b_1 cell_t froz_t lt_t hX2
 have cell_t:=t_2.cell
 have froz_t:=t_2.frozen
 have lt_t:=t_2.lt
 go_wp2_with fail
 refine calls_forget0 (W:=X2) ?_ ?_
 (focus (exact belBy))
 intro X3 hX3
 have sX3:=hX3.size
 refine (HD.out _).mono ?_
 rintro e w3 ⟨rfl,hb3⟩
 have s3:=hb3.size
 have hT3:=hX3.trans (hb3.mono sX3)
 have b_3:=b_2.trans (hT3.mono (by omega))
 have q_3:=cells_below q_2 hT3 (by omega)
 have t_3:=Blk.past hT3 t_2
 clear q_2 t_2 b_2 cell_t froz_t lt_t hX3 hT3 hb3
 have cell_t:=t_3.cell
 have froz_t:=t_3.frozen
 have lt_t:=t_3.lt
 have HT:=hid t_3
 have HB:=hid b_3
 clear t_3 b_3 q_3
 go_wp2
 go_loopw [7,8,9,36] (fun o _ _ i wr=>∃ (j:Nat) (A':Option Addr) (c':Nat),j≤bs.length∧i=.int .i64 j∧o=.slice A' j c'∧wr.ownsRow (w.heap.size + 1) 3 1 (.slice A' j c') j (ints (labsTo s a bs j))∧Blk wr w.heap.size 27 #[.int .i64 s,.int .i64 a]∧Below w.heap.size w wr) (fun _ _ _ i _=>bs.length - (intOf i).toNat)
 case atStart=>exact ⟨0,some ⟨w3.heap.size + 1,0,none⟩,0,Nat.zero_le _,rfl,rfl,own_lit (size:=1) #[] 0 (by simp) (by simp; omega) (Nat.zero_le _) rfl,by have h:=HT.out; exact blkcBy,by have h:=HB.out; exact belBy⟩
 case round =>
  obtain ⟨j,A',c',hj,rfl,rfl,hown,ht,hb⟩:=hrel
  by_cases hlt:j < bs.length
  ·obtain ⟨x,hx⟩:∃ x,bs[j]? = some x:=⟨_,List.getElem?_eq_getElem hlt⟩
   obtain ⟨b,off,rfl,hB,hcl⟩:=HC.out (by rw [ints_length]; omega)
   have hcell:wr.cell? ⟨b,off + j,none⟩=some (.int .i64 x):=(hb.cell (p:=⟨b,off + j,none⟩) hB).trans (hcl j _ (ints_get hx))
   have HX:=hid (labsTo_succ (s:=s) (a:=a) hx)
   have hbit:=HBI.out j x hx
   have HBIT:=hid hbit
   clear hcl hx hbit
   have b_10:=hb
   have s_10:=b_10.size
   have o_in:=own_in hown
   have o_10:=hown
   clear hown
   have t_10:=ht
   clear ht
   have t_lt:=t_10.lt
   have cell_t:=t_10.cell
   have froz_t:=t_10.frozen
   have lt_t:=t_10.lt
   go_wp2_with fail
   refine calls_forget0 (W:=wr) ?_ ?_
   (focus (exact belBy))
   intro X11 hX11
   have sX11:=hX11.size
   refine (HZ.out _ _ (inB_iff.2 (by omega))).mono ?_
   rintro e w11 ⟨rfl,hb11⟩
   have s11:=hb11.size
   have hT11:=hX11.trans (hb11.mono sX11)
   have b_11:=b_10.trans (hT11.mono (by omega))
   have o_11:=own_below o_10 hT11
   have t_11:=Blk.past hT11 t_10
   clear o_10 t_10 b_10 cell_t froz_t lt_t hX11 hT11 hb11
   have cell_t:=t_11.cell
   have froz_t:=t_11.frozen
   have lt_t:=t_11.lt
   go_wp2_with fail
   refine calls_forget0 (W:=w11) ?_ ?_
   (focus (exact belBy))
   intro X12 hX12
   have sX12:=hX12.size
   refine (iLabelFor _ _ _ _ (zero_label _ _) (delta_label _ _) HBIT.out).mono ?_
   rintro e w12 ⟨rfl,hb12⟩
   have s12:=hb12.size
   have hT12:=hX12.trans (hb12.mono sX12)
   have b_12:=b_11.trans (hT12.mono (by omega))
   have o_12:=own_below o_11 hT12
   have t_12:=Blk.past hT12 t_11
   clear o_11 t_11 b_11 cell_t froz_t lt_t hX12 hT12 hb12
   have cell_t:=t_12.cell
   have froz_t:=t_12.frozen
   have lt_t:=t_12.lt
   go_wp2_with (at_builtin; refine wpList_appi rfl _ _ 30 rfl (w.heap.size + 1) 3 (.int .i64 0) 1 8 Tryz.underlying30 infoInt rfl (by decide) _ j _ rfl (o_12.alloc _) ⟨w12.heap.size,0,none⟩ 1 1 _ rfl rfl (one_new _ _ _) (one_one _) (by omega) (by decide) (by simp; omega) ?_)
   intro A_o c_o w13 o_13 hg13 li13
   have hg13:=grown_alloc hg13
   try simp only [World.size_alloc] at li13
   have s13:=hg13.size
   have b_13:=gr_below hg13 b_12 (by omega) (fun q hq=>by have h1:=o_in q hq; omega)
   have t_13:=gr_blk hg13 t_12 (fun q hq=>by have h1:=o_in q hq; omega)
   have o_ix:=own_in o_13
   clear o_12 t_12 b_12 cell_t froz_t lt_t hg13 li13 o_in
   have o_in:=o_ix
   clear o_ix
   have cell_t:=t_13.cell
   have froz_t:=t_13.frozen
   have lt_t:=t_13.lt
   rw [←ints_snoc,←HX.out] at o_13
   have HO:=hid o_13
   have HT2:=hid t_13
   have HB2:=hid b_13
   clear o_13 t_13 b_13 cell_t froz_t
   go_wp2
   go_roundw
   case rel=>exact ⟨j + 1,A_o,c_o,by omega,by go_num,rfl,HO.out,HT2.out,HB2.out⟩
   case measure=>simp [intOf]; omega
  ·obtain rfl:j=bs.length:=by omega
   have HO:=hid hown
   have HB2:=hid hb
   clear hown ht hb
   go_wp2
   go_ret
   have el:(labsTo s a bs bs.length).length=bs.length:=labsTo_length _ _ _ _
   unfold GivesInts
   rw [el]
   exact ⟨A',c',rfl,own_weak HO.out (by omega),HB2.out⟩
open Go.RowKit
open Go.RowKit
def GivesPair (w:World) (xs:List Int) (b:Bool) (e:Ending) (w':World):Prop :=
 ∃ A c,e=.returned (.tuple #[.slice A xs.length c,.bool b])∧w'.ownsRow w.heap.size 3 1 (.slice A xs.length c) xs.length (ints xs)∧Below w.heap.size w w'
open Go.RowKit
theorem o4_take {L:List St} (hL:∀ s∈L,stmtB s=true∧s.o≠12∧s.o≠13):∀ k,k≤L.length→∃ m,(compC (L.take k)).o.length=4 * m
 | 0,_=>⟨0,rfl⟩
 | k + 1,h=>by
  obtain ⟨m,hm⟩:=o4_take hL k (by omega)
  have hok:=ok_take hL k (by omega)
  rw [List.take_succ_eq_append_getElem (by omega),compC_snoc]
  unfold stepC
  split
  ·have hin:=stmt_in (hL _ (List.getElem_mem (by omega:k < L.length))).1
   obtain ⟨_,ha⟩:=hok.reg hin.2.2.1
   exact ⟨m + 1,by rw [List.length_append,word_len ha]; omega⟩
  ·exact ⟨m,hm⟩
theorem cirO_len {L:List St} (hu:unrB L=true):∃ m,(cirO L).length=4 * m∧m≤120:=by
 have e:(cirO L).length=(compL L).o.length:=by
  unfold cirO optC
  rw [prun_outs,simp_outs]
 rw [e,compL_yes hu]
 obtain ⟨m,hm⟩:=o4_take (unrL_ok L) (unrL L).length (Nat.le_refl _)
 rw [List.take_length] at hm
 have h:=(comp_ok L).oh
 have h2:=unrL_len L
 exact ⟨m,hm,by omega⟩
open Go.RowKit
theorem iNib (A:Option Addr) (c:Nat) (xs:List Int) (w:World) (hc:Cells w w.heap.size A (ints xs)) (hn:xs.length≤1000000000) :
  Calls Tryz.prog 92 #[.slice A xs.length c] w fun e w'=>e=.returned (.bool (nbB xs))∧w=w':=by
 go_enter Tryz.func92,Tryz.ntmps92
 go_wp2
 go_loop [4,7] (fun _ i=>∃ j:Nat,j≤xs.length∧i=.int .i64 j∧nbB (xs.take j)=true) (fun _ i=>xs.length - (intOf i).toNat)
 case atStart=>exact ⟨0,Nat.zero_le _,rfl,rfl⟩
 case round =>
  obtain ⟨j,hj,rfl,hw⟩:=hrel
  by_cases hlt:j < xs.length
  ·obtain ⟨x,hx⟩:∃ x,xs[j]? = some x:=⟨_,List.getElem?_eq_getElem hlt⟩
   obtain ⟨b,off,rfl,hB,hcl⟩:=hc (by rw [ints_length]; omega)
   have hcell:w.cell? ⟨b,off + j,none⟩=some (.int .i64 x):=hcl j _ (ints_get hx)
   have HW:=hid hw
   have HX:=hid hx
   clear hcl hc hw hx
   cases hb:inB x 0 15
   ·go_wp2_with (go_at_call 56; refine (iWithin _ _ _ _).mono ?_; rintro e w' ⟨rfl,rfl⟩)
    go_ret
    exact ⟨ret_bool (by rw [nbB_no HX.out hb]),rfl⟩
   ·go_wp2_with (go_at_call 56; refine (iWithin _ _ _ _).mono ?_; rintro e w' ⟨rfl,rfl⟩)
    go_round
    case rel=>exact ⟨j + 1,by omega,by go_num,nbB_snoc HX.out HW.out hb⟩
    case measure=>simp [intOf]; omega
  ·obtain rfl:j=xs.length:=by omega
   rw [List.take_length] at hw
   have HW:=hid hw
   clear hw
   go_wp2
   go_ret
   exact ⟨ret_bool HW.out.symm,rfl⟩
theorem iInsOk (A:Option Addr) (c:Nat) (ls:List In1) (w:World) (hc:Cells w w.heap.size A (insW ls)) (hi:InsW w w.heap.size ls) (hn:ls.length≤1000000000) (hm:∀ q∈ls,q.2.2.length≤1000000000) :
  Calls Tryz.prog 46 #[.slice A ls.length c] w fun e w'=>e=.returned (.bool (insB (insN ls)))∧w=w':=by
 have HI:=hid hi
 have HM:=hid hm
 clear hi hm
 go_enter Tryz.func46,Tryz.ntmps46
 go_wp2
 go_loop [4,7] (fun _ i=>∃ j:Nat,j≤ls.length∧i=.int .i64 j∧lnsB ((insN ls).take j)=true) (fun _ i=>ls.length - (intOf i).toNat)
 case atStart=>exact ⟨0,Nat.zero_le _,rfl,rfl⟩
 case round =>
  obtain ⟨j,hj,rfl,hw⟩:=hrel
  by_cases hlt:j < ls.length
  ·obtain ⟨⟨A1,c1,xs⟩,hx⟩:∃ x,ls[j]? = some x:=⟨_,List.getElem?_eq_getElem hlt⟩
   obtain ⟨b,off,rfl,hB,hcl⟩:=hc (by rw [insW_length]; omega)
   have hcell:w.cell? ⟨b,off + j,none⟩=some (.slice A1 xs.length c1):=hcl j _ (insW_get hx)
   have HN:=hid (iNib A1 c1 xs w (HI.out _ _ hx) (HM.out _ (List.mem_of_getElem? hx)))
   have HX:=hid (insN_get hx)
   have HW:=hid hw
   have hlt':(j:Int) < (ls.length:Int):=by omega
   clear hcl hc hw hx
   obtain ⟨m,hm⟩:∃ m,xs.length=m:=⟨_,rfl⟩
   by_cases h4:m=4
   ·subst h4
    rw [hm] at hcell HN
    have HL:=hid hm
    clear hm
    cases hb:nbB xs
    ·rw [hb] at HN
     go_wp2_with (go_at_call 92; (with_reducible refine (HN.out).mono ?_); rintro e w' ⟨rfl,rfl⟩)
     go_ret
     exact ⟨ret_bool (by rw [insB_eq,lnsB_no HX.out (by unfold lnB; rw [hb,Bool.and_false]),Bool.false_and]),rfl⟩
    ·rw [hb] at HN
     go_wp2_with (go_at_call 92; (with_reducible refine (HN.out).mono ?_); rintro e w' ⟨rfl,rfl⟩)
     go_round
     case rel=>exact ⟨j + 1,by omega,by go_num,lnsB_snoc HX.out HW.out (by unfold lnB; rw [hb,Bool.and_true]; exact decide_eq_true HL.out)⟩
     case measure=>simp [intOf]; omega
   ·have HL:=hid hm
    rw [hm] at hcell
    have h4':((m:Int) == 4)=false:=by simp; omega
    have h4'':((m:Int) != 4)=true:=by simp; omega
    clear hm
    go_wp2_with fail
    go_ret
    exact ⟨ret_bool (by rw [insB_eq,lnsB_no HX.out (by unfold lnB; rw [decide_eq_false (by rw [HL.out]; exact h4),Bool.false_and]),Bool.false_and]),rfl⟩
  ·obtain rfl:j=ls.length:=by omega
   rw [show ls.length=(insN ls).length from (insN_length ls).symm,List.take_length] at hw
   have HW:=hid hw
   clear hw
   go_wp2
   go_ret
   exact ⟨ret_bool (by rw [insB_eq,HW.out,insN_length,Bool.true_and,Bool.eq_iff_iff,beq_iff_eq,decide_eq_true_eq]; omega),rfl⟩
set_option maxRecDepth 100000 in
set_option maxHeartbeats 3200000 in
theorem iInBits (A:Option Addr) (c:Nat) (ls:List In1) (w:World) (hc:Cells w w.heap.size A (insW ls)) (hi:InsW w w.heap.size ls) (hb:insB (insN ls)=true) :
  Calls Tryz.prog 48 #[.slice A ls.length c] w fun e w'=>∃ A' c',e=.returned (.slice A' 80 c')∧w'.ownsRow w.heap.size 3 1 (.slice A' 80 c') 80 (ints (inBits (insN ls)))∧Below w.heap.size w w':=by
 have hb2:=hb
 rw [insB_eq,Bool.and_eq_true,decide_eq_true_eq,insN_length] at hb2
 obtain ⟨hlb,h5⟩:=hb2
 have h4:∀ q∈ls,q.2.2.length=4∧nbB q.2.2=true:=fun q hq=>by
  have h:=List.all_eq_true.1 hlb q.2.2 (List.mem_map.2 ⟨q,hq,rfl⟩)
  unfold lnB at h
  rw [Bool.and_eq_true,decide_eq_true_eq] at h
  exact h
 have HM:=hid (fun q (hq:q∈ls)=>(show q.2.2.length≤1000000000 by have:=(h4 q hq).1; omega))
 have HI:=hid hi
 have HC:=hid hc
 have HB:=hid hb
 have H4:=hid h4
 have HT:=hid (fun k (hk:k≤5)=>inBits_take hlb k (by rw [insN_length]; omega))
 have HK:=hid (iInsOk A c ls w hc hi (by omega) (fun q hq=>HM.out q hq))
 rw [hb] at HK
 have H5:=hid h5
 simp only [h5] at HK
 rw [h5]
 obtain ⟨ab,ao,rfl,hB,hcl⟩:=hc (by rw [insW_length]; omega)
 clear hlb h5 hi hb h4
 go_enter Tryz.func48,Tryz.ntmps48
 go_wp2_with (go_at_call 46; (with_reducible refine (HK.out).mono ?_); rintro e w' ⟨rfl,rfl⟩)
 go_loopw [3,5,7,8,15,21] (fun o _ _ _ i _ wr=>∃ k:Nat,k≤5∧i=.int .i64 k∧BitsE w (inBits ((insN ls).take k)) (16 * k) o wr) (fun _ _ _ _ i _ _=>5 - (intOf i).toNat)
 case atStart=>exact ⟨0,Nat.zero_le _,rfl,some ⟨w.heap.size,0,none⟩,0,rfl,rfl,own_lit (size:=1) #[] 0 rfl (Nat.le_refl _) (Nat.zero_le _) rfl,(Below.refl _ _).alloc (Nat.le_refl _) _⟩
 case round =>
  obtain ⟨k,hk,rfl,hS⟩:=hrel
  by_cases hlt:k < 5
  ·obtain ⟨⟨A1,c1,l⟩,hq⟩:∃ q,ls[k]? = some q:=⟨_,List.getElem?_eq_getElem (by have:=H5.out; omega)⟩
   obtain ⟨hl4,hln⟩:=H4.out _ (List.mem_of_getElem? hq)
   dsimp only at hl4 hln
   have hst:=inBits_step (insN_get hq)
   dsimp only at hst
   obtain ⟨b',off',rfl,hB',hcl'⟩:=HI.out k _ hq (by dsimp only; rw [ints_length]; omega)
   have d0:=hcl k _ (insW_get hq)
   dsimp only at d0
   rw [hl4] at d0
   have hlt':(k:Int) < 5:=by omega
   have HD:=hid (show Below w.heap.size w wr from by obtain ⟨_,_,_,_,_,h⟩:=hS; exact h)
   have zw:=HD.out.size
   have HS:=hid hS
   have HST:=hid hst
   have d1:wr.cell? ⟨ab,ao + k,none⟩=some (.slice (some ⟨b',off',none⟩) 4 c1):=(HD.out.cell (p:=⟨ab,ao + k,none⟩) hB).trans d0
   have HCL:=hid (fun (j:Nat) (x:Int) (h:l[j]? = some x)=>hcl' j _ (ints_get h))
   have HL:=hid (And.intro hl4 hln)
   have HX:=hid (And.intro hq d0)
   clear hS hq hst hl4 hln hcl' d0
   go_wp2_with fail
   go_loopw [3,7,8,21] (fun o _ _ i wr=>∃ j:Nat,j≤4∧i=.int .i64 j∧BitsE w (inBits ((insN ls).take k) ++ bits16 (l.take j)) (16 * k + 4 * j) o wr) (fun _ _ _ i _=>4 - (intOf i).toNat)
   case atStart=>exact ⟨0,Nat.zero_le _,rfl,by rw [show bits16 (l.take 0)=[] from rfl,List.append_nil]; exact HS.out⟩
   case round =>
    obtain ⟨j,hj,rfl,hS⟩:=hrel
    by_cases hlt2:j < 4
    ·have hlt2':(j:Int) < 4:=by omega
     obtain ⟨x,hx⟩:∃ x,l[j]? = some x:=⟨_,List.getElem?_eq_getElem (by have:=HL.out.1; omega)⟩
     have hx15:=inB_iff.1 (List.all_eq_true.1 HL.out.2 x (List.mem_of_getElem? hx))
     have HS2:=hid (And.intro hS (bits16_step hx))
     have HD2:=hid (show Below w.heap.size w wr from by obtain ⟨_,_,_,_,_,h⟩:=hS; exact h)
     have zw2:=HD2.out.size
     have d2:wr.cell? ⟨b',off' + j,none⟩=some (.int .i64 x):=(HD2.out.cell (p:=⟨b',off' + j,none⟩) hB').trans (HCL.out j x hx)
     have HX2:=hid hx
     clear hS hx d1
     go_wp2_with fail
     go_loopw [3,8] (fun o i wr=>∃ m:Nat,m≤4∧i=.int .i64 m∧BitsE w (inBits ((insN ls).take k) ++ bits16 (l.take j) ++ (bits4 x).take m) (16 * k + 4 * j + m) o wr) (fun _ i _=>4 - (intOf i).toNat)
     case atStart=>exact ⟨0,Nat.zero_le _,rfl,by rw [List.take_zero,List.append_nil]; exact HS2.out.1⟩
     case round =>
      obtain ⟨m,hm,rfl,A',c',hlen,rfl,hown,hbw⟩:=hrel
      have zw3:=hbw.size
      obtain ⟨xs,hxs⟩:∃ q,inBits ((insN ls).take k) ++ bits16 (l.take j) ++ (bits4 x).take m=q:=⟨_,rfl⟩
      rw [hxs] at hlen hown
      by_cases hlt3:m < 4
      ·have hlt3':(m:Int) < 4:=by omega
       have hbt:=bit_take hx15.1 hx15.2 hlt3
       have HE:=hid (show inBits ((insN ls).take k) ++ bits16 (l.take j) ++ (bits4 x).take (m + 1)=xs ++ [bits .and .i64 (x / 2 ^ m) 1] by rw [hbt,←List.append_assoc,hxs])
       have d1:wr.cell? ⟨ab,ao + k,none⟩=some (.slice (some ⟨b',off',none⟩) 4 c1):=(hbw.cell (p:=⟨ab,ao + k,none⟩) hB).trans HX.out.2
       have d3:wr.cell? ⟨b',off' + j,none⟩=some (.int .i64 x):=(hbw.cell (p:=⟨b',off' + j,none⟩) hB').trans (HCL.out j x HX2.out)
       have HO:=hid (And.intro hown (And.intro hbw hlen))
       clear hbt hxs hown hbw hlen d2
       go_wp2_with (at_builtin; refine app_inti rfl _ _ rfl (base:=w.heap.size) (L:=xs) (v:=Value.slice A' (16 * k + 4 * j + m) c') rfl (HO.out.1.alloc _) (by simp; omega) [bits .and .i64 (x / 2 ^ m) 1] rfl rfl (top_cells _ [_] _) (by omega) ?_)
       intro A3 c3 w3 ho3 hg3 hl3
       have hlo:=own_in HO.out.1
       have HF:=hid (And.intro ho3 (gr_below (grown_alloc hg3) HO.out.2.1 (by omega) (fun p hp=>by have:=(hlo p hp).1; omega)))
       clear ho3 hg3 hl3 hlo d1 d3
       go_wp2
       go_roundw
       case rel=>exact ⟨m + 1,by omega,by go_num,A3,c3,by rw [HE.out,List.length_append,HO.out.2.2]; rfl,rfl,by rw [HE.out]; exact HF.out.1,HF.out.2⟩
       case measure=>simp [intOf]; omega
      ·obtain rfl:m=4:=by omega
       have HF:=hid (And.intro hown (And.intro hbw (And.intro hlen hxs)))
       clear hown hbw hlen hxs d2
       go_wp2
       go_roundw
       case rel =>
        have e:inBits ((insN ls).take k) ++ bits16 (l.take (j + 1))=xs:=by rw [HS2.out.2,←List.append_assoc]; exact HF.out.2.2.2
        exact ⟨j + 1,by omega,by go_num,A',c',by rw [e]; exact HF.out.2.2.1,rfl,by rw [e]; exact HF.out.1,HF.out.2.1⟩
       case measure=>simp [intOf]; omega
    ·obtain rfl:j=4:=by omega
     have HS2:=hid hS
     clear hS d1
     go_wp2
     go_roundw
     case rel =>
      refine ⟨k + 1,by omega,by go_num,?_⟩
      have h:=HS2.out
      rw [show l.take 4=l by rw [←HL.out.1,List.take_length],←HST.out] at h
      exact h
     case measure=>simp [intOf]; omega
  ·obtain rfl:k=5:=by omega
   have h:=hS
   rw [show (insN ls).take 5=insN ls by rw [←H5.out,←insN_length,List.take_length]] at h
   obtain ⟨A',c',hlen,rfl,hown,hbw⟩:=h
   have HF:=hid (And.intro hown hbw)
   clear hS hown hbw hlen
   go_wp2
   go_ret
   exact ⟨A',c',rfl,HF.out.1,HF.out.2⟩
open Go.RowKit
def InsR (w:World) (base:Nat) (ls:List In1):Prop:=∀ (i:Nat) (q:In1),ls[i]? = some q→w.ownsRow base 3 1 (.slice q.1 q.2.2.length q.2.1) q.2.2.length (ints q.2.2)
theorem InsR.cells {w:World} {base:Nat} {ls:List In1} (h:InsR w base ls):InsW w w.heap.size ls:=fun i q hq=>Cells.of_own (h i q hq)
theorem InsR.below {w w':World} {base:Nat} {ls:List In1} (h:InsR w base ls) (hb:Below w.heap.size w w'):InsR w' base ls:=fun i q hq=>own_below (h i q hq) hb
def totL (ls:List In1):Nat:=(ls.map fun q=>q.2.2.length).sum
theorem totL_mem {ls:List In1} {q:In1} (h:q∈ls):q.2.2.length≤totL ls:=by
 unfold totL
 induction ls with
 | nil=>cases h
 | cons a l ih =>
  rw [List.map_cons,List.sum_cons]
  rcases List.mem_cons.1 h with rfl | h
  ·omega
  ·have:=ih h
   omega
theorem InsR.grown {w w':World} {base b e sz n:Nat} {ls:List In1} {v:Value} {xs:List Value} (h:InsR w base ls) (ho:w.ownsRow b e sz v n xs) (he:e≠3) (hg:w.grownBy w' v.ownBlock):InsR w' base ls:=fun i q hq=>gr_own hg (h i q hq) fun a p ha hp=>own_ne ho (h i q hq) he a p ha hp
open Go.RowKit
theorem scan_plain:∀ L:List St,(∀ s∈L,stmtB s=true∧s.o≠12∧s.o≠13)→scanP 0 L=true
 | [],_=>rfl
 | s :: r,h=>by
  obtain ⟨h1,h2,h3⟩:=h s List.mem_cons_self
  have hd:dep s 0=0:=by unfold dep; rw [if_neg h2,if_neg h3]
  rw [scanP,h1,hd,scan_plain r fun x hx=>h x (List.mem_cons_of_mem _ hx)]
  rfl
theorem tree_plain:∀ t:Tr,t.ok=true→(∀ s∈t.flat,s.o≠12)→t.us=t.flat.length∧t.unr=t.flat
 | .nil,_,_=>⟨rfl,rfl⟩
 | .one s r,h,hn=>by
  simp only [Tr.ok,Bool.and_eq_true] at h
  obtain ⟨h1,h2⟩:=tree_plain r h.2.2.2 fun x hx=>hn x (List.mem_cons_of_mem _ hx)
  exact ⟨by simp only [Tr.us,Tr.flat,List.length_cons,h1]; omega,by simp only [Tr.unr,Tr.flat,h2]⟩
 | .loop h b e r,ht,hn=>by
  simp only [Tr.ok,Bool.and_eq_true,beq_iff_eq] at ht
  exact absurd ht.2.1 (hn h List.mem_cons_self)
theorem loopless {L:List St} (h:∀ s∈L,stmtB s=true∧s.o≠12∧s.o≠13) (hl:L.length≤40):unrB L=true∧unrL L=L:=by
 have hp:progB L=true:=by
  unfold progB
  rw [decide_eq_true hl,scan_plain L h]
  rfl
 obtain ⟨e,h1,_,_⟩:=trOf_ok hp
 have h2:=tree_plain (trOf L) h1 (by rw [←e]; exact fun s hs=>(h s hs).2.1)
 rw [←e] at h2
 have hu:unrB L=true:=by
  unfold unrB
  rw [hp,h2.1,decide_eq_true (by omega)]
  rfl
 exact ⟨hu,by unfold unrL; rw [if_pos hu]; exact h2.2⟩
end Go.Proofs.YtihbaieiempjeaaGreat
set_option linter.unusedVariables false
namespace Go.Proofs.YtihbaieiempjeaaGreat
open Go.RowKit Go.ChangeShapes Go.WideShapes Go.ChangeAt
theorem own_cap {w:World} {base e size n c:Nat} {A:Option Addr} {xs:List Value} (h:w.ownsRow base e size (.slice A n c) n xs):n≤c:=by
 rcases h.2 with ⟨hv,hn⟩ | ⟨g,cap,cur,hv,hg,hh,r⟩
 ·injection hv with _ h2 h3
  omega
 ·injection hv with _ _ h3
  subst h3
  exact r.1
def toI (ls:List (Nat × Nat × List Int)):List In1:=ls.map fun q=>(some ⟨q.1,0,none⟩,q.2.1,q.2.2)
theorem toI_len (ls:List (Nat × Nat × List Int)):(toI ls).length=ls.length:=by simp [toI]
theorem toI_W {w:World} {base:Nat} {ls:List (Nat × Nat × List Int)} (h:InsO w base ls):insW (toI ls)=insV ls:=by
 unfold insW toI insV
 rw [List.map_map]
 apply List.map_congr_left
 intro q hq
 obtain ⟨i,hi⟩:=List.mem_iff_getElem?.1 hq
 have e:q.2.2.length=4:=(h i q hi).2.1
 simp [e]
theorem toI_in {w:World} {base:Nat} {ls:List (Nat × Nat × List Int)} (h:InsO w base ls):InsW w w.heap.size (toI ls):=by
 intro i q hq
 unfold toI at hq
 rw [List.getElem?_map] at hq
 cases hx:ls[i]? with
 | none=>rw [hx] at hq; cases hq
 | some x =>
  rw [hx] at hq
  obtain rfl:=Option.some.inj hq
  exact Cells.of_own (h i x hx).1
theorem toI_ok {w:World} {base:Nat} {ls:List (Nat × Nat × List Int)} (h:InsO w base ls) (h5:ls.length=5):insB (insN (toI ls))=true∧(toI ls).length + totL (toI ls)≤1000000000:=by
 have h4:∀ q∈ls,In4 q.2.2:=fun q hq=>by
  obtain ⟨i,hi⟩:=List.mem_iff_getElem?.1 hq
  exact (h i q hi).2
 constructor
 ·unfold insB
  rw [insN_length,toI_len,h5,Bool.and_eq_true]
  refine ⟨rfl,?_⟩
  rw [List.all_eq_true]
  intro l hl
  unfold insN toI at hl
  rw [List.map_map] at hl
  obtain ⟨q,hq,rfl⟩:=List.mem_map.1 hl
  obtain ⟨e,hr⟩:=h4 q hq
  rw [Bool.and_eq_true]
  refine ⟨decide_eq_true e,?_⟩
  rw [List.all_eq_true]
  intro n hn
  have:=hr n hn
  exact inB_iff.2 (by omega)
 ·rw [toI_len,h5]
  have e:totL (toI ls)≤4 * ls.length:=by
   clear h h5
   unfold totL toI
   induction ls with
   | nil=>simp
   | cons q ls ih =>
    have h1:=(h4 q (List.mem_cons_self ..)).1
    have h2:=ih (fun p hp=>h4 p (List.mem_cons_of_mem _ hp))
    simp only [List.map_cons,List.sum_cons,List.length_cons] at h2 ⊢
    omega
  omega
theorem sameInts_same (A B:Option Addr) (c d:Nat) (xs:List Int) (w:World) (ha:Cells w w.heap.size A (ints xs)) (hc:Cells w w.heap.size B (ints xs)) (hn:xs.length≤1000000000) :
  Calls Tryz.prog 13 #[.slice A xs.length c,.slice B xs.length d] w fun e w'=>e=.returned (.bool true)∧Below w.heap.size w w':=by
 go_enter Tryz.func13,Tryz.ntmps13
 go_wp2
 go_loopw [5] (fun i wr=>∃ k:Nat,k≤xs.length∧i=.int .i64 k∧Below w.heap.size w wr) (fun i _=>xs.length - (intOf i).toNat)
 case atStart=>exact ⟨0,Nat.zero_le _,rfl,Below.refl _ _⟩
 case round =>
  obtain ⟨k,hk,rfl,hb⟩:=hrel
  by_cases hlt:k < xs.length
  ·obtain ⟨x,hx⟩:∃ x,xs[k]? = some x:=⟨_,List.getElem?_eq_getElem hlt⟩
   obtain ⟨b,off,rfl,hB,hcl⟩:=ha (by rw [ints_length]; omega)
   obtain ⟨b',off',rfl,hB',hcl'⟩:=hc (by rw [ints_length]; omega)
   have hcell:wr.cell? ⟨b,off + k,none⟩=some (.int .i64 x):=(hb.cell (p:=⟨b,off + k,none⟩) hB).trans (hcl k _ (ints_get hx))
   have hcell':wr.cell? ⟨b',off' + k,none⟩=some (.int .i64 x):=(hb.cell (p:=⟨b',off' + k,none⟩) hB').trans (hcl' k _ (ints_get hx))
   have HB:=hid hb
   have hlt':(k:Int) < (xs.length:Int):=by omega
   clear hcl hcl' ha hc hb hx
   go_wp2
   go_quiet (fail)
   go_wp2
   go_roundw
   case rel=>exact ⟨k + 1,by omega,by go_num,⟨HB.out.os,HB.out.tape,HB.out.output,HB.out.size,HB.out.block⟩⟩
   case measure=>simp [intOf]; omega
  ·obtain rfl:k=xs.length:=by omega
   go_wp2
   go_ret
   exact ⟨rfl,hb⟩
end Go.Proofs.YtihbaieiempjeaaGreat
