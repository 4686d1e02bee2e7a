/- Lemmas of the proof: PubI, PubS, Trans, Trans2. -/
import Derived.Test.YtihbaieiempjeaaGreatB0
import Derived.Test.YtihbaieiempjeaaGreatB19
import Derived.Test.YtihbaieiempjeaaGreatB21
import Derived.Test.YtihbaieiempjeaaGreatB1
import Derived.Deep.RegionHeld3
import Derived.Deep.DeepCutAuto
import Derived.BigQuiet
namespace Go.Proofs.YtihbaieiempjeaaGreat
open Go.RowKit
theorem grow_lit1i {P:Program} {t e base:Nat} {w:World} {o:Oper} {a:Act} {x:Operand} {v:Value} (ho:o.op=Op.buildSlice t 1 #[(0,x)]) (hv:a.eval x=v)
  (hr:∀ w:World,(Instr.buildSlice t 1 #[(0,v)]).run P w=.ok (.slice (some ⟨w.heap.size,0,none⟩) 1 1) (w.alloc (.cells #[v] e))) (hb:base≤w.heap.size) :
  growUpon P Grows (RowOf base e 1 1 [v]) w ((execOp a.eval o).run P w):=by
 simp [execOp,ho,growUpon,hr,hv,Result.andThen]
 exact ⟨(Below.refl _ _).alloc (Nat.le_refl _) _,_,_,rfl,own_lit #[v] 1 rfl hb (by decide) rfl⟩
theorem litInt (b:Int) (w:World):(Instr.buildSlice 30 1 #[(0,.int .i64 b)]).run Tryz.prog w=.ok (.slice (some ⟨w.heap.size,0,none⟩) 1 1) (w.alloc (.cells #[.int .i64 b] 3)):=by
 simp [go_sem]
theorem con_step {d:Int} {zs:List Int} {gs:List Gt} {j:Nat} {g:Gt} (h:gs[j]? = some g):conTo d zs gs (j + 1)=conTo d zs gs j ++ conP d zs j g:=by
 rw [conTo,List.getD_eq_getElem?_getD,h]
 rfl
theorem conTo_len (d:Int) (zs:List Int) (gs:List Gt):∀ j,(conTo d zs gs j).length≤j
 | 0=>Nat.le_refl _
 | j + 1=>by
  have h:=conTo_len d zs gs j
  rw [conTo,List.length_append]
  unfold conP
  split <;> simp <;> omega
theorem dec_step {zs os:List Int} {i:Nat} {x:Int} (h:os[i]? = some x):decL zs (os.take (i + 1))=decL zs (os.take i) ++ [oneI (zs.getD x.toNat 0)]:=by
 unfold decL
 rw [take_snoc h,List.map_append]
 rfl
set_option linter.unusedVariables false in
set_option maxRecDepth 100000 in
set_option maxHeartbeats 6400000 in
theorem iPublicOf (G O Z T:Option Addr) (cg co cz ct:Nat) (gs:List Gt) (os:List Int) (d:Int) (zs ts:List Int) (w:World) (hg:Cells w w.heap.size G (ints (flatG gs))) (ho:Cells w w.heap.size O (ints os)) (hz:Cells w w.heap.size Z (ints zs)) (ht:w.ownsRow 0 3 1 (.slice T ts.length ct) ts.length (ints ts)) (h:GarOk gs os d zs ts) :
  Calls Tryz.prog 51 #[.agg #[.slice G gs.length cg,.slice O os.length co],.agg #[.int .i64 d,.slice Z zs.length cz,.slice T ts.length ct]] w (GivesP w ts (conTo d zs gs gs.length) (decL zs os)):=by
 obtain ⟨hn6,hgv,hov⟩:=circ_parts h.c
 have HG:=hid hg
 have HO:=hid ho
 have HZ:=hid hz
 have HT:=hid ht
 have HK:=hid (fun w hg ho hz ht=>iGarbledOk G O Z T cg co cz ct gs os d zs ts w hg ho hz ht h)
 have hcn:=cntG_le gs 4
 have htn:=h.tn
 have hzn:=Nat.le_of_eq h.zn.symm
 have hm:=h.m
 have hdl:=h.dl
 have HV:=hid hgv
 have HW:=hid hov
 have HL:=hid h.z
 have ht6:ts.length≤12000:=by omega
 clear hg ho hz h hgv hov hcn htn
 go_enter Tryz.func51,Tryz.ntmps51
 have b_0:=(Below.refl w.heap.size w)
 have s_0:=b_0.size
 have to_in:=own_in ht
 have to_0:=ht
 clear ht
 go_upto_region 1 with fail
 refine wp_forget3 (w0:=w) (B:=w.heap.size) (b0:=w.heap.size) (t0:=40) (c0:=#[.slice G gs.length cg,.slice O os.length co]) (b1:=w.heap.size + 1) (t1:=76) (c1:=#[.int .i64 d,.slice Z zs.length cz,.slice T ts.length ct]) (b2:=w.heap.size + 2) (t2:=80) (c2:=#[.slice none 0 0,.slice none 0 0,.slice none 0 0]) ?_ ?_ ?_ ?_ ?_
 (focus exact blkcBy2)
 (focus exact blkcBy2)
 (focus exact blkcBy2)
 (focus (exact belBy))
 intro w1 x_1 g_1 r_1 hX1
 have sX1:=hX1.size
 have x_lt:=x_1.lt
 have g_lt:=g_1.lt
 have r_lt:=r_1.lt
 have b_1:=b_0.trans (hX1.mono (by omega))
 have to_1:=own_below to_0 hX1
 clear to_0 b_0 hX1
 have cell_x:=x_1.cell
 have froz_x:=x_1.frozen
 have lt_x:=x_1.lt
 have cell_g:=g_1.cell
 have froz_g:=g_1.frozen
 have lt_g:=g_1.lt
 have cell_r:=r_1.cell
 have froz_r:=r_1.frozen
 have lt_r:=r_1.lt
 go_wp2_with fail
 refine calls_forget0 (W:=w1) ?_ ?_
 (focus (exact belBy))
 intro X2 hX2
 have sX2:=hX2.size
 refine (HK.out _ ((HG.out.below (b_1.trans (hX2.mono (by omega)))).more (by omega)) ((HO.out.below (b_1.trans (hX2.mono (by omega)))).more (by omega)) ((HZ.out.below (b_1.trans (hX2.mono (by omega)))).more (by omega)) ((Cells.of_own HT.out |>.below (b_1.trans (hX2.mono (by omega)))).more (by omega))).mono ?_
 rintro e w2 ⟨rfl,hb2⟩
 have s2:=hb2.size
 have hT2:=hX2.trans (hb2.mono sX2)
 have b_2:=b_1.trans (hT2.mono (by omega))
 have to_2:=own_below to_1 hT2
 have x_2:=Blk.past hT2 x_1
 have g_2:=Blk.past hT2 g_1
 have r_2:=Blk.past hT2 r_1
 clear to_1 x_1 g_1 r_1 b_1 cell_x froz_x lt_x cell_g froz_g lt_g cell_r froz_r lt_r hX2 hT2 hb2
 have cell_x:=x_2.cell
 have froz_x:=x_2.frozen
 have lt_x:=x_2.lt
 have cell_g:=g_2.cell
 have froz_g:=g_2.frozen
 have lt_g:=g_2.lt
 have cell_r:=r_2.cell
 have froz_r:=r_2.frozen
 have lt_r:=r_2.lt
 go_wp2_with fail
 refine calls_forget0 (W:=w2) ?_ ?_
 (focus (exact belBy))
 intro X3 hX3
 have sX3:=hX3.size
 refine (iIntsO T ct ts.length ts _ (own_below to_2 hX3) (by omega)).mono ?_
 rintro e w3 ⟨A',c',rfl,ta_3,hb3⟩
 have s3:=hb3.size
 have hT3:=hX3.trans (hb3.mono sX3)
 have b_3:=b_2.trans (hT3.mono (by omega))
 have to_3:=own_below to_2 hT3
 have x_3:=Blk.past hT3 x_2
 have g_3:=Blk.past hT3 g_2
 have r_3:=Blk.past hT3 r_2
 have ta_in:=own_in ta_3
 clear to_2 x_2 g_2 r_2 b_2 cell_x froz_x lt_x cell_g froz_g lt_g cell_r froz_r lt_r hX3 hT3 hb3
 have cell_x:=x_3.cell
 have froz_x:=x_3.frozen
 have lt_x:=x_3.lt
 have cell_g:=g_3.cell
 have froz_g:=g_3.frozen
 have lt_g:=g_3.lt
 have cell_r:=r_3.cell
 have froz_r:=r_3.frozen
 have lt_r:=r_3.lt
 go_upto_region 4 with fail
 refine wp_forget1 (w0:=w3) (B:=w3.heap.size) (b0:=w3.heap.size) (t0:=80) (c0:=#[.slice A' ts.length c',.slice none 0 0,.slice none 0 0]) ?_ ?_ ?_
 (focus exact blkcBy2)
 (focus (exact belBy))
 intro w4 p_4 hX4
 have sX4:=hX4.size
 have p_lt:=p_4.lt
 have b_4:=b_3.trans (hX4.mono (by omega))
 have to_4:=own_below to_3 hX4
 have ta_4:=own_below ta_3 hX4
 have x_4:=Blk.past hX4 x_3
 have g_4:=Blk.past hX4 g_3
 have r_4:=Blk.past hX4 r_3
 clear to_3 ta_3 x_3 g_3 r_3 b_3 cell_x froz_x lt_x cell_g froz_g lt_g cell_r froz_r lt_r hX4
 have cell_x:=x_4.cell
 have froz_x:=x_4.frozen
 have lt_x:=x_4.lt
 have cell_g:=g_4.cell
 have froz_g:=g_4.frozen
 have lt_g:=g_4.lt
 have cell_r:=r_4.cell
 have froz_r:=r_4.frozen
 have lt_r:=r_4.lt
 have cell_p:=p_4.cell
 have froz_p:=p_4.frozen
 have lt_p:=p_4.lt
 obtain ⟨bp,hbp⟩:∃ n,w3.heap.size=n:=⟨_,rfl⟩
 rw [hbp] at p_4
 have H4:=hid (show PubM w w.heap.size (w.heap.size + 1) (w.heap.size + 2) bp #[.slice G gs.length cg,.slice O os.length co] #[.int .i64 d,.slice Z zs.length cz,.slice T ts.length ct] #[.slice none 0 0,.slice none 0 0,.slice none 0 0] ts [] [] A' c' none 0 none 0 w4 from
  ⟨x_4,g_4,r_4,p_4,own_weak ta_4 (by omega),own_none,own_none,(fun q _ hp=>by cases hp),(fun q _ hp=>by cases hp),(fun q hq=>by cases hq),b_4,by omega,by omega⟩)
 rw [hbp]
 clear x_4 g_4 r_4 p_4 ta_4 to_4 ta_in to_in b_4 froz_x cell_g froz_g lt_g cell_r froz_r lt_r cell_p froz_p lt_p hbp
 go_wp2_with fail
 clear cell_x lt_x
 go_loopw [7,8,23] (fun _ _ i wr=>∃ (j kk:Nat) (K:Option Addr),j≤gs.length∧i=.int .i64 (j:Int)∧PubM w w.heap.size (w.heap.size + 1) (w.heap.size + 2) bp #[.slice G gs.length cg,.slice O os.length co] #[.int .i64 d,.slice Z zs.length cz,.slice T ts.length ct] #[.slice none 0 0,.slice none 0 0,.slice none 0 0] ts (conTo d zs gs j) [] A' c' K kk none 0 wr) (fun _ _ i _=>gs.length - (intOf i).toNat)
 case atStart=>exact ⟨0,0,none,Nat.zero_le _,rfl,H4.out⟩
 case round =>
  clear H4
  obtain ⟨j,kk,K,hj,rfl,hI⟩:=hrel
  have hkl:=conTo_len d zs gs j
  by_cases hlt:j < gs.length
  ·obtain ⟨⟨k,x,y⟩,hx⟩:∃ s,gs[j]? = some s:=⟨_,List.getElem?_eq_getElem hlt⟩
   have hgv:=gatesB_at HV.out hx
   rw [Nat.zero_add] at hgv
   have hst:=con_step (d:=d) (zs:=zs) hx
   obtain ⟨bG,og,rfl,hBg,d0,d1,d2⟩:=gt_cells HG.out hI.bl hx
   obtain ⟨ks,hks⟩:∃ c,conTo d zs gs j=c:=⟨_,rfl⟩
   rw [hks] at hI hkl hst
   have hzx:zs[j]? = some (zs.getD j 0):=by rw [List.getD_eq_getElem?_getD,List.getElem?_eq_getElem (by omega)]; rfl
   unfold conP at hst
   dsimp only at hst
   have hbs:=hI.bl.size
   have hlt':(j:Int) < (gs.length:Int):=by omega
   have hlz':(j:Int) < (zs.length:Int):=by omega
   have j00:(0:Int)≤(j:Int):=by omega
   have hb1:ks.length + 1≤1000000:=by omega
   clear hx hks hkl
   have cell_x:=hI.c.cell
   have lt_x:=hI.c.lt
   have cell_g:=hI.g.cell
   have lt_g:=hI.g.lt
   have b_30:=(Below.refl wr.heap.size wr)
   have s_30:=b_30.size
   go_upto_region 7 with fail
   refine wp_forget1 (w0:=wr) (B:=wr.heap.size) (b0:=wr.heap.size) (t0:=96) (c0:=#[.int .i64 k,.int .i64 x,.int .i64 y]) ?_ ?_ ?_
   (focus exact blkcBy2)
   (focus (exact belBy))
   intro w31 q_31 hX31
   have sX31:=hX31.size
   have q_lt:=q_31.lt
   have b_31:=b_30.trans (hX31.mono (by omega))
   clear b_30 hX31
   have cell_q:=q_31.cell
   have froz_q:=q_31.frozen
   have lt_q:=q_31.lt
   have z31:=b_31.size
   have HI3:=hid (hI.below b_31)
   have c0:=cell_q 0
   have c1:=cell_q 1
   dsimp at c0 c1
   have HQ3:=hid q_31
   clear b_31 q_31 hI cell_x lt_x cell_g lt_g
   obtain ⟨bz,oz,rfl,hBz,hcz⟩:=Cells.at_ (HZ.out.below HI3.out.bl) (ints_get hzx)
   have fz:=hcz _ _ (ints_get hzx)
   have hlz:=HL.out _ (List.mem_of_getElem? hzx)
   obtain ⟨z,hzd⟩:∃ z,zs.getD j 0=z:=⟨_,rfl⟩
   rw [hzd] at fz hlz hst
   clear hcz hzx hzd
   by_cases hk:k=2
   ·subst hk
    have ha2:=(gate_is2 hgv rfl).1
    dsimp only at ha2
    have ha:=inB_iff.2 (show 0≤x∧x≤1 by omega)
    clear ha2
    have HS:=hid (hst.trans (show _=ks ++ [lblI z d x] from rfl))
    have HFZ:=hid fz
    clear hst hgv fz
    go_upto_region 8 with fail
    have qx:=fun (X:Later w31) (o:Nat)=>(HI3.out.c.past X.below).cell o
    have qg:=fun (X:Later w31) (o:Nat)=>(HI3.out.g.past X.below).cell o
    have qp:=fun (X:Later w31) (o:Nat)=>(HI3.out.p.past X.below).cell o
    have qq:=fun (X:Later w31) (o:Nat)=>(HQ3.out.past X.below).cell o
    have qz:=fun (X:Later w31)=>(X.below.cell (p:=⟨bz,oz + j,none⟩) (by dsimp only; omega)).trans HFZ.out
    refine wp_grow_tails (W:=w31) (spec:=specAt [(11,.con (.int .i64 (lblI z d x))),(12,.any (RowOf w31.heap.size 3 1 1 [.int .i64 (lblI z d x)]))]) 13 (by kernel_rfl) (by kernel_rfl) (Onward.mk' ((Below.refl _ _).drew)) (specAt_stab ?_) ?_
    ·intro p hp F hF
     simp only [List.mem_cons,List.not_mem_nil,or_false] at hp
     rcases hp with rfl | rfl
     all_goals first | (cases hF; done) | (injection hF with hF; subst hF; exact RowOf.stable)
    refine gList_quietK 11 ⟨rfl,rfl,rfl,rfl,rfl,rfl,rfl,rfl,rfl,rfl,rfl,rfl,rfl,rfl,rfl,rfl,rfl,rfl,rfl,rfl,rfl,rfl,trivial⟩ (by decide) ?_
    delta Onward
    dsimp only [List.take,List.drop]
    repeat (go_big_quiet_step (fail))
    refine wpQuiet_nil ?_
    refine gList_con (.int .i64 (lblI z d x)) rfl rfl (fun w' hC _=>?_) ?_
    ·obtain ⟨⟨w',hb⟩,rfl⟩:=hC
     exact grow_con (by simp [go_sem]) (iLabelFor z d x _ hlz hdl ha)
    simp only [Act.put,List.setIfInBounds_toArray,List.set_cons_succ,List.set_cons_zero]
    refine gList_any (RowOf w31.heap.size 3 1 1 [.int .i64 (lblI z d x)]) rfl rfl (fun w' hC hd=>?_) (fun vr=>?_)
    ·obtain ⟨⟨w',hb⟩,rfl⟩:=hC
     exact grow_lit1i rfl rfl (fun w=>litInt _ w) hb.size
    unfold gList
    intro w' hW hfs
    have hlast:RowOf w31.heap.size 3 1 1 [.int .i64 (lblI z d x)] vr w':=hfs 12
    obtain ⟨⟨w32,hb⟩,rfl⟩:=hW
    obtain ⟨A7,c7,rfl,h7⟩:=hlast
    obtain ⟨g7,rfl,_,_,_⟩:=own_at h7 (by omega)
    have s32:=hb.size
    have H7:=hid (row_cells (show Row _ g7 _ 1 1 c7 _ from own_weak h7 (Nat.zero_le _)))
    have HW:=hid (HI3.out.below hb)
    have hw32:=HW.out.bl.size
    clear qx qg qp qz hfs hb h7 HFZ qq
    dsimp only [List.drop]
    simp only [Act.put,List.setIfInBounds_toArray,List.set_cons_succ,List.set_cons_zero]
    have hko:=HW.out.k
    have hne1:=hid (own_ne_obj HW.out.k HW.out.p (by decide))
    go_wp2_with (at_builtin; refine app_ints rfl _ _ rfl (base:=w.heap.size) (L:=ks) (v:=Value.slice K ks.length kk) rfl hko (by omega) [lblI z d x] rfl rfl H7.out hb1 ?_)
    intro A1 k1 w8 ho8 hg8 hl8
    have kx8:=gr_blk hg8 HW.out.p hne1.out
    have cell_8:=kx8.cell
    have froz_8:=kx8.frozen
    have lt_8:=kx8.lt
    have HF:=hid (PubM.con HW.out (Below.refl _ _) ho8 hg8 (fun q hq=>(hl8 q hq).imp id (fun e=>by omega)))
    clear ho8 hg8 hl8 kx8 hko hne1
    go_wp2
    go_roundw
    case rel=>exact ⟨j + 1,k1,A1,by omega,by go_num,by rw [HS.out]; exact HF.out⟩
    case measure=>simp [intOf]; omega
   ·have HS:=hid (hst.trans (show _=ks by rw [if_neg (by simpa using hk),List.append_nil]))
    have hk':(k == 2)=false:=by simpa using hk
    clear hst hgv
    go_wp2
    go_roundw
    case rel=>exact ⟨j + 1,kk,K,by omega,by go_num,by rw [HS.out]; exact HI3.out⟩
    case measure=>simp [intOf]; omega
  ·obtain rfl:j=gs.length:=by omega
   obtain ⟨ks,hks⟩:∃ c,conTo d zs gs gs.length=c:=⟨_,rfl⟩
   rw [hks] at hI
   have HKS:=hid hks
   have H5:=hid hI
   clear hks
   have cell_x:=hI.c.cell
   have lt_x:=hI.c.lt
   clear hI hkl
   go_wp2_with fail
   clear cell_x lt_x
   go_loopw [10,50] (fun _ i wr=>∃ (j kd:Nat) (D:Option Addr),j≤os.length∧i=.int .i64 (j:Int)∧PubM w w.heap.size (w.heap.size + 1) (w.heap.size + 2) bp #[.slice G gs.length cg,.slice O os.length co] #[.int .i64 d,.slice Z zs.length cz,.slice T ts.length ct] #[.slice none 0 0,.slice none 0 0,.slice none 0 0] ts ks (decL zs (os.take j)) A' c' K kk D kd wr) (fun _ i _=>os.length - (intOf i).toNat)
   case atStart=>exact ⟨0,0,none,Nat.zero_le _,rfl,H5.out⟩
   case round =>
    clear H5
    obtain ⟨j,kd,D,hj,rfl,hI⟩:=hrel
    have cell_x:=hI.c.cell
    have lt_x:=hI.c.lt
    have hdl:(decL zs (os.take j)).length=j:=by unfold decL; simp; omega
    by_cases hlt2:j < os.length
    ·obtain ⟨x,hx⟩:∃ s,os[j]? = some s:=⟨_,List.getElem?_eq_getElem hlt2⟩
     have hxw:=wireB_iff.1 (outs_wire HW.out x (List.mem_of_getElem? hx))
     obtain ⟨x,rfl⟩:=Int.eq_ofNat_of_zero_le hxw.1
     have hst:=dec_step (zs:=zs) hx
     obtain ⟨bo,oo,rfl,hBo,hco⟩:=Cells.at_ (HO.out.below hI.bl) (ints_get hx)
     have d0:=hco _ _ (ints_get hx)
     have hzx:zs[x]? = some (zs.getD x 0):=by rw [List.getD_eq_getElem?_getD,List.getElem?_eq_getElem (by omega)]; rfl
     obtain ⟨bz,oz,rfl,hBz,hcz⟩:=Cells.at_ (HZ.out.below hI.bl) (ints_get hzx)
     have fz:=hcz _ _ (ints_get hzx)
     obtain ⟨z,hzd⟩:∃ z,zs.getD x 0=z:=⟨_,rfl⟩
     have hxn:((x:Nat):Int).toNat=x:=by omega
     rw [hxn,hzd] at hst
     rw [hzd] at fz
     obtain ⟨dd,hdd⟩:∃ c,decL zs (os.take j)=c:=⟨_,rfl⟩
     rw [hdd] at hI hst hdl
     have hbs:=hI.bl.size
     have hlt':(j:Int) < (os.length:Int):=by omega
     have hlz':(x:Int) < (zs.length:Int):=by omega
     have j00:(0:Int)≤(j:Int):=by omega
     have x00:(0:Int)≤(x:Int):=by omega
     have hb1:dd.length + 1≤1000000:=by omega
     have HST:=hid hst
     have HI:=hid hI
     have HFZ:=hid (And.intro fz d0)
     clear hcz hzx hzd hx hdd hst hI hco hxw hxn hdl fz
     go_upto_region 13 with fail
     clear d0
     have qx:=fun (X:Later wr) (o:Nat)=>(HI.out.c.past X.below).cell o
     have qg:=fun (X:Later wr) (o:Nat)=>(HI.out.g.past X.below).cell o
     have qp:=fun (X:Later wr) (o:Nat)=>(HI.out.p.past X.below).cell o
     have qz:=fun (X:Later wr)=>(X.below.cell (p:=⟨bz,oz + x,none⟩) (by dsimp only; omega)).trans HFZ.out.1
     have q0:=fun (X:Later wr)=>(X.below.cell (p:=⟨bo,oo + j,none⟩) (by dsimp only; omega)).trans HFZ.out.2
     refine wp_grow_tails (W:=wr) (spec:=specAt [(8,.any (RowOf wr.heap.size 3 1 1 [.int .i64 (bits .and .i64 z 1)]))]) 9 (by kernel_rfl) (by kernel_rfl) (Onward.mk' ((Below.refl _ _).drew)) (specAt_stab ?_) ?_
     ·intro p hp F hF
      simp only [List.mem_cons,List.not_mem_nil,or_false] at hp
      rcases hp with rfl
      all_goals first | (cases hF; done) | (injection hF with hF; subst hF; exact RowOf.stable)
     refine gList_quietK 8 ⟨rfl,rfl,rfl,rfl,rfl,rfl,rfl,rfl,rfl,rfl,rfl,rfl,rfl,rfl,rfl,rfl,trivial⟩ (by decide) ?_
     delta Onward
     dsimp only [List.take,List.drop]
     repeat (go_big_quiet_step (fail))
     refine wpQuiet_nil ?_
     refine gList_any (RowOf wr.heap.size 3 1 1 [.int .i64 (bits .and .i64 z 1)]) rfl rfl (fun w' hC hd=>?_) (fun vr=>?_)
     ·obtain ⟨⟨w',hb⟩,rfl⟩:=hC
      exact grow_lit1i rfl rfl (fun w=>litInt _ w) hb.size
     unfold gList
     intro w' hW hfs
     have hlast:RowOf wr.heap.size 3 1 1 [.int .i64 (bits .and .i64 z 1)] vr w':=hfs 8
     obtain ⟨⟨w32,hb⟩,rfl⟩:=hW
     obtain ⟨A7,c7,rfl,h7⟩:=hlast
     obtain ⟨g7,rfl,_,_,_⟩:=own_at h7 (by omega)
     have s32:=hb.size
     have H7:=hid (row_cells (show Row _ g7 _ 1 1 c7 _ from own_weak h7 (Nat.zero_le _)))
     have HX:=hid (HI.out.below hb)
     have hw32:=HX.out.bl.size
     clear qx qg qp qz q0 hfs hb h7 HFZ
     dsimp only [List.drop]
     simp only [Act.put,List.setIfInBounds_toArray,List.set_cons_succ,List.set_cons_zero]
     have hko:=HX.out.d
     have hne1:=hid (own_ne_obj HX.out.d HX.out.p (by decide))
     go_wp2_with (at_builtin; refine app_ints rfl _ _ rfl (base:=w.heap.size) (L:=dd) (v:=Value.slice D dd.length kd) rfl hko (by omega) [bits .and .i64 z 1] rfl rfl H7.out hb1 ?_)
     intro A1 k1 w8 ho8 hg8 hl8
     have kx8:=gr_blk hg8 HX.out.p hne1.out
     have cell_8:=kx8.cell
     have froz_8:=kx8.frozen
     have lt_8:=kx8.lt
     have HF:=hid (PubM.dec HX.out (Below.refl _ _) ho8 hg8 (fun q hq=>(hl8 q hq).imp id (fun e=>by omega)))
     clear ho8 hg8 hl8 kx8 hko hne1 cell_x lt_x
     go_wp2
     go_roundw
     case rel=>exact ⟨j + 1,k1,A1,by omega,by go_num,by rw [HST.out]; exact HF.out⟩
     case measure=>simp [intOf]; omega
    ·obtain rfl:j=os.length:=by omega
     rw [List.take_length] at hI hdl
     have hbk:=hI.p
     have cell_p:=hbk.cell
     have froz_p:=hbk.frozen
     have lt_p:=hbk.lt
     have cell_r:=hI.r.cell
     have froz_r:=hI.r.frozen
     have lt_r:=hI.r.lt
     have hne:bp≠w.heap.size + 2:=hI.hr.symm
     have hne2:w.heap.size + 2≠bp:=hI.hr
     have HI:=hid hI
     clear hI hbk hdl
     go_wp2
     ((try simp only [Exit.inBlock,Exit.then]); apply bodyPost_ret0; focus ((try simp only [results,Tryz.results51]); (try go_simp); (try rfl)))
     have hks:=HKS.out
     subst hks
     exact HI.out.give (by exact tchBy) (by omega)
open Go.RowKit
set_option linter.unusedVariables false in
set_option maxRecDepth 100000 in
set_option maxHeartbeats 6400000 in
theorem sPublicOf (G O Z T:Option Addr) (cg co cz ct:Nat) (gs:List Gt) (os:List Int) (d:Int) (zs ts:List Int) (w:World) (hg:Cells w w.heap.size G (ints (flatG gs))) (ho:Cells w w.heap.size O (ints os)) (hz:Cells w w.heap.size Z (ints zs)) (ht:w.ownsRow 0 3 1 (.slice T ts.length ct) ts.length (ints ts)) (h:GarOk gs os d zs ts) :
  Calls Tryz.prog 132 #[.agg #[.slice G gs.length cg,.slice O os.length co],.agg #[.int .i64 d,.slice Z zs.length cz,.slice T ts.length ct]] w (GivesP w ts (conTo d zs gs gs.length) (decL zs os)):=by
 obtain ⟨hn6,hgv,hov⟩:=circ_parts h.c
 have HG:=hid hg
 have HO:=hid ho
 have HZ:=hid hz
 have HT:=hid ht
 have HK:=hid (fun w hg ho hz ht=>sGarbledOk G O Z T cg co cz ct gs os d zs ts w hg ho hz ht h)
 have hcn:=cntG_le gs 4
 have htn:=h.tn
 have hzn:=Nat.le_of_eq h.zn.symm
 have hm:=h.m
 have hdl:=h.dl
 have HV:=hid hgv
 have HW:=hid hov
 have HL:=hid h.z
 have ht6:ts.length≤12000:=by omega
 clear hg ho hz h hgv hov hcn htn
 go_enter Tryz.func132,Tryz.ntmps132
 have b_0:=(Below.refl w.heap.size w)
 have s_0:=b_0.size
 have to_in:=own_in ht
 have to_0:=ht
 clear ht
 go_upto_region 1 with fail
 refine wp_forget3 (w0:=w) (B:=w.heap.size) (b0:=w.heap.size) (t0:=40) (c0:=#[.slice G gs.length cg,.slice O os.length co]) (b1:=w.heap.size + 1) (t1:=76) (c1:=#[.int .i64 d,.slice Z zs.length cz,.slice T ts.length ct]) (b2:=w.heap.size + 2) (t2:=80) (c2:=#[.slice none 0 0,.slice none 0 0,.slice none 0 0]) ?_ ?_ ?_ ?_ ?_
 (focus exact blkcBy2)
 (focus exact blkcBy2)
 (focus exact blkcBy2)
 (focus (exact belBy))
 intro w1 x_1 g_1 r_1 hX1
 have sX1:=hX1.size
 have x_lt:=x_1.lt
 have g_lt:=g_1.lt
 have r_lt:=r_1.lt
 have b_1:=b_0.trans (hX1.mono (by omega))
 have to_1:=own_below to_0 hX1
 clear to_0 b_0 hX1
 have cell_x:=x_1.cell
 have froz_x:=x_1.frozen
 have lt_x:=x_1.lt
 have cell_g:=g_1.cell
 have froz_g:=g_1.frozen
 have lt_g:=g_1.lt
 have cell_r:=r_1.cell
 have froz_r:=r_1.frozen
 have lt_r:=r_1.lt
 go_wp2_with fail
 refine calls_forget0 (W:=w1) ?_ ?_
 (focus (exact belBy))
 intro X2 hX2
 have sX2:=hX2.size
 refine (HK.out _ ((HG.out.below (b_1.trans (hX2.mono (by omega)))).more (by omega)) ((HO.out.below (b_1.trans (hX2.mono (by omega)))).more (by omega)) ((HZ.out.below (b_1.trans (hX2.mono (by omega)))).more (by omega)) ((Cells.of_own HT.out |>.below (b_1.trans (hX2.mono (by omega)))).more (by omega))).mono ?_
 rintro e w2 ⟨rfl,hb2⟩
 have s2:=hb2.size
 have hT2:=hX2.trans (hb2.mono sX2)
 have b_2:=b_1.trans (hT2.mono (by omega))
 have to_2:=own_below to_1 hT2
 have x_2:=Blk.past hT2 x_1
 have g_2:=Blk.past hT2 g_1
 have r_2:=Blk.past hT2 r_1
 clear to_1 x_1 g_1 r_1 b_1 cell_x froz_x lt_x cell_g froz_g lt_g cell_r froz_r lt_r hX2 hT2 hb2
 have cell_x:=x_2.cell
 have froz_x:=x_2.frozen
 have lt_x:=x_2.lt
 have cell_g:=g_2.cell
 have froz_g:=g_2.frozen
 have lt_g:=g_2.lt
 have cell_r:=r_2.cell
 have froz_r:=r_2.frozen
 have lt_r:=r_2.lt
 go_upto_region 3 with fail
 refine wp_forget0 (w0:=w2) (B:=w2.heap.size) ?_ ?_
 (focus (exact belBy))
 intro w3 hX3
 have sX3:=hX3.size
 have b_3:=b_2.trans (hX3.mono (by omega))
 have to_3:=own_below to_2 hX3
 have x_3:=Blk.past hX3 x_2
 have g_3:=Blk.past hX3 g_2
 have r_3:=Blk.past hX3 r_2
 clear to_2 x_2 g_2 r_2 b_2 cell_x froz_x lt_x cell_g froz_g lt_g cell_r froz_r lt_r hX3
 have cell_x:=x_3.cell
 have froz_x:=x_3.frozen
 have lt_x:=x_3.lt
 have cell_g:=g_3.cell
 have froz_g:=g_3.frozen
 have lt_g:=g_3.lt
 have cell_r:=r_3.cell
 have froz_r:=r_3.frozen
 have lt_r:=r_3.lt
 have HTO:=hid to_3
 have HNL:=hid (And.intro (own_nil to_3) to_3.1)
 have HX3:=hid (And.intro x_3 (And.intro g_3 (And.intro r_3 b_3)))
 have HLIT:=hid (lit_made (w:=w3) (base:=w.heap.size) (e:=3) (size:=1) b_3.size)
 have z3:=b_3.size
 clear to_3 to_in x_3 r_3 b_3 cell_x froz_x lt_x cell_r froz_r lt_r
 go_wp2_with (at_builtin; refine wpList_copy Tryz.underlying30 infoI rfl (by decide) rfl rfl rfl rfl HLIT.out HNL.out.2 ((Cells.of_own HTO.out).below ((Below.refl _ _).alloc (Nat.le_refl _) _)) HNL.out.1 (ints_one _) (by omega) (by decide) (by simp; omega) ?_; intro A' c' w4 ta_4 hb4)
 have hb5:Below w3.heap.size w3 w4:=((Below.refl w3.heap.size w3).alloc (Nat.le_refl _) _).trans (hb4.mono (by simp))
 have z4:=hb5.size
 have HTA:=hid ta_4
 have HX4:=hid (And.intro (HX3.out.1.past hb5) (And.intro (HX3.out.2.1.past hb5) (And.intro (HX3.out.2.2.1.past hb5) (HX3.out.2.2.2.trans (hb5.mono z3)))))
 clear ta_4 hb4 hb5 HX3 HLIT HNL HTO g_3 cell_g froz_g lt_g
 go_upto_region 4 with fail
 obtain ⟨bp,hbp⟩:∃ n,w4.heap.size=n:=⟨_,rfl⟩
 apply wp_forget1 (w0:=w4) (B:=w4.heap.size) (b0:=w4.heap.size) (t0:=TPb) (c0:=#[.slice A' ts.length c',.slice none 0 0,.slice none 0 0])
 focus exact blkcBy2
 focus (exact belBy)
 intro w5 p_5 hb5
 have z5:=hb5.size
 rw [hbp] at p_5
 have H4:=hid (show PubM w w.heap.size (w.heap.size + 1) (w.heap.size + 2) bp #[.slice G gs.length cg,.slice O os.length co] #[.int .i64 d,.slice Z zs.length cz,.slice T ts.length ct] #[.slice none 0 0,.slice none 0 0,.slice none 0 0] ts [] [] A' c' none 0 none 0 w5 from
  ⟨HX4.out.1.past hb5,HX4.out.2.1.past hb5,HX4.out.2.2.1.past hb5,p_5,own_below (own_weak HTA.out (Nat.le_refl _)) hb5,own_none,own_none,(fun q _ hp=>by cases hp),(fun q _ hp=>by cases hp),(fun q hq=>by cases hq),HX4.out.2.2.2.trans (hb5.mono (by omega)),by omega,by have:=HX4.out.2.2.1.lt; omega⟩)
 rw [hbp]
 clear p_5 hb5 hbp HX4 HTA
 go_wp2_with fail
 go_loopw [7] (fun i wr=>∃ (j kk:Nat) (K:Option Addr),j≤gs.length∧i=.int .i64 (j:Int)∧PubM w w.heap.size (w.heap.size + 1) (w.heap.size + 2) bp #[.slice G gs.length cg,.slice O os.length co] #[.int .i64 d,.slice Z zs.length cz,.slice T ts.length ct] #[.slice none 0 0,.slice none 0 0,.slice none 0 0] ts (conTo d zs gs j) [] A' c' K kk none 0 wr) (fun i _=>gs.length - (intOf i).toNat)
 case atStart=>exact ⟨0,0,none,Nat.zero_le _,rfl,H4.out⟩
 case round =>
  clear H4
  obtain ⟨j,kk,K,hj,rfl,hI⟩:=hrel
  have hkl:=conTo_len d zs gs j
  by_cases hlt:j < gs.length
  ·obtain ⟨⟨k,x,y⟩,hx⟩:∃ s,gs[j]? = some s:=⟨_,List.getElem?_eq_getElem hlt⟩
   have hgv:=gatesB_at HV.out hx
   rw [Nat.zero_add] at hgv
   have hst:=con_step (d:=d) (zs:=zs) hx
   obtain ⟨bG,og,rfl,hBg,d0,d1,d2⟩:=gt_cells HG.out hI.bl hx
   obtain ⟨ks,hks⟩:∃ c,conTo d zs gs j=c:=⟨_,rfl⟩
   rw [hks] at hI hkl hst
   have hzx:zs[j]? = some (zs.getD j 0):=by rw [List.getD_eq_getElem?_getD,List.getElem?_eq_getElem (by omega)]; rfl
   unfold conP at hst
   dsimp only at hst
   have hbs:=hI.bl.size
   have hlt':(j:Int) < (gs.length:Int):=by omega
   have hlz':(j:Int) < (zs.length:Int):=by omega
   have j00:(0:Int)≤(j:Int):=by omega
   have hb1:ks.length + 1≤1000000:=by omega
   clear hx hks hkl
   have cell_x:=hI.c.cell
   have lt_x:=hI.c.lt
   have cell_g:=hI.g.cell
   have lt_g:=hI.g.lt
   have HI3:=hid hI
   have HD:=hid (And.intro d0 d1)
   clear hI
   obtain ⟨bz,oz,rfl,hBz,hcz⟩:=Cells.at_ (HZ.out.below HI3.out.bl) (ints_get hzx)
   have fz:=hcz _ _ (ints_get hzx)
   have hlz:=HL.out _ (List.mem_of_getElem? hzx)
   obtain ⟨z,hzd⟩:∃ z,zs.getD j 0=z:=⟨_,rfl⟩
   rw [hzd] at fz hlz hst
   clear hcz hzx hzd
   by_cases hk:k=2
   ·subst hk
    have ha2:=(gate_is2 hgv rfl).1
    dsimp only at ha2
    have ha:=inB_iff.2 (show 0≤x∧x≤1 by omega)
    clear ha2
    have HS:=hid (hst.trans (show _=ks ++ [lblI z d x] from rfl))
    have HFZ:=hid fz
    clear hst hgv fz
    go_upto_region 8 with fail
    have qx:=fun (X:Later wr) (o:Nat)=>(HI3.out.c.past X.below).cell o
    have qg:=fun (X:Later wr) (o:Nat)=>(HI3.out.g.past X.below).cell o
    have qp:=fun (X:Later wr) (o:Nat)=>(HI3.out.p.past X.below).cell o
    have q0:=fun (X:Later wr)=>(X.below.cell (p:=⟨bG,og + j * 3,none⟩) (by dsimp only; omega)).trans HD.out.1
    have q1:=fun (X:Later wr)=>(X.below.cell (p:=⟨bG,og + j * 3 + 1,none⟩) (by dsimp only; omega)).trans HD.out.2
    have qz:=fun (X:Later wr)=>(X.below.cell (p:=⟨bz,oz + j,none⟩) (by dsimp only; omega)).trans HFZ.out
    refine wp_grow_tails (W:=wr) (spec:=specAt [(15,.con (.int .i64 (lblI z d x))),(16,.any (RowOf wr.heap.size 3 1 1 [.int .i64 (lblI z d x)]))]) 17 (by kernel_rfl) (by kernel_rfl) (Onward.mk' ((Below.refl _ _).drew)) (specAt_stab ?_) ?_
    ·intro p hp F hF
     simp only [List.mem_cons,List.not_mem_nil,or_false] at hp
     rcases hp with rfl | rfl
     all_goals first | (cases hF; done) | (injection hF with hF; subst hF; exact RowOf.stable)
    refine gList_quietK 15 ⟨rfl,rfl,rfl,rfl,rfl,rfl,rfl,rfl,rfl,rfl,rfl,rfl,rfl,rfl,rfl,rfl,rfl,rfl,rfl,rfl,rfl,rfl,rfl,rfl,rfl,rfl,rfl,rfl,rfl,rfl,trivial⟩ (by decide) ?_
    delta Onward
    dsimp only [List.take,List.drop]
    repeat (go_big_quiet_step (fail))
    refine wpQuiet_nil ?_
    refine gList_con (.int .i64 (lblI z d x)) rfl rfl (fun w' hC _=>?_) ?_
    ·obtain ⟨⟨w',hb⟩,rfl⟩:=hC
     exact grow_con (by simp [go_sem]) (sLabelFor z d x _ hlz hdl ha)
    simp only [Act.put,List.setIfInBounds_toArray,List.set_cons_succ,List.set_cons_zero]
    refine gList_any (RowOf wr.heap.size 3 1 1 [.int .i64 (lblI z d x)]) rfl rfl (fun w' hC hd=>?_) (fun vr=>?_)
    ·obtain ⟨⟨w',hb⟩,rfl⟩:=hC
     exact grow_lit1i rfl rfl (fun w=>litInt _ w) hb.size
    unfold gList
    intro w' hW hfs
    have hlast:RowOf wr.heap.size 3 1 1 [.int .i64 (lblI z d x)] vr w':=hfs 16
    obtain ⟨⟨w32,hb⟩,rfl⟩:=hW
    obtain ⟨A7,c7,rfl,h7⟩:=hlast
    obtain ⟨g7,rfl,_,_,_⟩:=own_at h7 (by omega)
    have s32:=hb.size
    have H7:=hid (row_cells (show Row _ g7 _ 1 1 c7 _ from own_weak h7 (Nat.zero_le _)))
    have HW:=hid (HI3.out.below hb)
    have hw32:=HW.out.bl.size
    clear qx qg qp qz hfs hb h7 HFZ q0 q1
    dsimp only [List.drop]
    simp only [Act.put,List.setIfInBounds_toArray,List.set_cons_succ,List.set_cons_zero]
    have hko:=HW.out.k
    have hne1:=hid (own_ne_obj HW.out.k HW.out.p (by decide))
    go_wp2_with (at_builtin; refine app_ints rfl _ _ rfl (base:=w.heap.size) (L:=ks) (v:=Value.slice K ks.length kk) rfl hko (by omega) [lblI z d x] rfl rfl H7.out hb1 ?_)
    intro A1 k1 w8 ho8 hg8 hl8
    have kx8:=gr_blk hg8 HW.out.p hne1.out
    have cell_8:=kx8.cell
    have froz_8:=kx8.frozen
    have lt_8:=kx8.lt
    have HF:=hid (PubM.con HW.out (Below.refl _ _) ho8 hg8 (fun q hq=>(hl8 q hq).imp id (fun e=>by omega)))
    clear ho8 hg8 hl8 kx8 hko hne1
    go_wp2
    go_roundw
    case rel=>exact ⟨j + 1,k1,A1,by omega,by go_num,by rw [HS.out]; exact HF.out⟩
    case measure=>simp [intOf]; omega
   ·have HS:=hid (hst.trans (show _=ks by rw [if_neg (by simpa using hk),List.append_nil]))
    have hk':(k == 2)=false:=by simpa using hk
    clear hst hgv
    go_wp2
    go_roundw
    case rel=>exact ⟨j + 1,kk,K,by omega,by go_num,by rw [HS.out]; exact HI3.out⟩
    case measure=>simp [intOf]; omega
  ·obtain rfl:j=gs.length:=by omega
   obtain ⟨ks,hks⟩:∃ c,conTo d zs gs gs.length=c:=⟨_,rfl⟩
   rw [hks] at hI
   have HKS:=hid hks
   have H5:=hid hI
   clear hks
   have cell_x:=hI.c.cell
   have lt_x:=hI.c.lt
   clear hI hkl
   go_wp2_with fail
   clear cell_x lt_x
   go_loopw [8] (fun i wr=>∃ (j kd:Nat) (D:Option Addr),j≤os.length∧i=.int .i64 (j:Int)∧PubM w w.heap.size (w.heap.size + 1) (w.heap.size + 2) bp #[.slice G gs.length cg,.slice O os.length co] #[.int .i64 d,.slice Z zs.length cz,.slice T ts.length ct] #[.slice none 0 0,.slice none 0 0,.slice none 0 0] ts ks (decL zs (os.take j)) A' c' K kk D kd wr) (fun i _=>os.length - (intOf i).toNat)
   case atStart=>exact ⟨0,0,none,Nat.zero_le _,rfl,H5.out⟩
   case round =>
    clear H5
    obtain ⟨j,kd,D,hj,rfl,hI⟩:=hrel
    have cell_x:=hI.c.cell
    have lt_x:=hI.c.lt
    have hdl:(decL zs (os.take j)).length=j:=by unfold decL; simp; omega
    by_cases hlt2:j < os.length
    ·obtain ⟨x,hx⟩:∃ s,os[j]? = some s:=⟨_,List.getElem?_eq_getElem hlt2⟩
     have hxw:=wireB_iff.1 (outs_wire HW.out x (List.mem_of_getElem? hx))
     obtain ⟨x,rfl⟩:=Int.eq_ofNat_of_zero_le hxw.1
     have hst:=dec_step (zs:=zs) hx
     obtain ⟨bo,oo,rfl,hBo,hco⟩:=Cells.at_ (HO.out.below hI.bl) (ints_get hx)
     have d0:=hco _ _ (ints_get hx)
     have hzx:zs[x]? = some (zs.getD x 0):=by rw [List.getD_eq_getElem?_getD,List.getElem?_eq_getElem (by omega)]; rfl
     obtain ⟨bz,oz,rfl,hBz,hcz⟩:=Cells.at_ (HZ.out.below hI.bl) (ints_get hzx)
     have fz:=hcz _ _ (ints_get hzx)
     obtain ⟨z,hzd⟩:∃ z,zs.getD x 0=z:=⟨_,rfl⟩
     have hxn:((x:Nat):Int).toNat=x:=by omega
     rw [hxn,hzd] at hst
     rw [hzd] at fz
     obtain ⟨dd,hdd⟩:∃ c,decL zs (os.take j)=c:=⟨_,rfl⟩
     rw [hdd] at hI hst hdl
     have hbs:=hI.bl.size
     have hlt':(j:Int) < (os.length:Int):=by omega
     have hlz':(x:Int) < (zs.length:Int):=by omega
     have j00:(0:Int)≤(j:Int):=by omega
     have x00:(0:Int)≤(x:Int):=by omega
     have hb1:dd.length + 1≤1000000:=by omega
     have HST:=hid hst
     have HI:=hid hI
     have HFZ:=hid (And.intro fz d0)
     clear hcz hzx hzd hx hdd hst hI hco hxw hxn hdl fz
     go_upto_region 12 with fail
     clear d0
     have qx:=fun (X:Later wr) (o:Nat)=>(HI.out.c.past X.below).cell o
     have qg:=fun (X:Later wr) (o:Nat)=>(HI.out.g.past X.below).cell o
     have qp:=fun (X:Later wr) (o:Nat)=>(HI.out.p.past X.below).cell o
     have qz:=fun (X:Later wr)=>(X.below.cell (p:=⟨bz,oz + x,none⟩) (by dsimp only; omega)).trans HFZ.out.1
     have q0:=fun (X:Later wr)=>(X.below.cell (p:=⟨bo,oo + j,none⟩) (by dsimp only; omega)).trans HFZ.out.2
     refine wp_grow_tails (W:=wr) (spec:=specAt [(12,.any (RowOf wr.heap.size 3 1 1 [.int .i64 (bits .and .i64 z 1)]))]) 13 (by kernel_rfl) (by kernel_rfl) (Onward.mk' ((Below.refl _ _).drew)) (specAt_stab ?_) ?_
     ·intro p hp F hF
      simp only [List.mem_cons,List.not_mem_nil,or_false] at hp
      rcases hp with rfl
      all_goals first | (cases hF; done) | (injection hF with hF; subst hF; exact RowOf.stable)
     refine gList_quietK 12 ⟨rfl,rfl,rfl,rfl,rfl,rfl,rfl,rfl,rfl,rfl,rfl,rfl,rfl,rfl,rfl,rfl,rfl,rfl,rfl,rfl,rfl,rfl,rfl,rfl,trivial⟩ (by decide) ?_
     delta Onward
     dsimp only [List.take,List.drop]
     repeat (go_big_quiet_step (fail))
     refine wpQuiet_nil ?_
     refine gList_any (RowOf wr.heap.size 3 1 1 [.int .i64 (bits .and .i64 z 1)]) rfl rfl (fun w' hC hd=>?_) (fun vr=>?_)
     ·obtain ⟨⟨w',hb⟩,rfl⟩:=hC
      exact grow_lit1i rfl rfl (fun w=>litInt _ w) hb.size
     unfold gList
     intro w' hW hfs
     have hlast:RowOf wr.heap.size 3 1 1 [.int .i64 (bits .and .i64 z 1)] vr w':=hfs 12
     obtain ⟨⟨w32,hb⟩,rfl⟩:=hW
     obtain ⟨A7,c7,rfl,h7⟩:=hlast
     obtain ⟨g7,rfl,_,_,_⟩:=own_at h7 (by omega)
     have s32:=hb.size
     have H7:=hid (row_cells (show Row _ g7 _ 1 1 c7 _ from own_weak h7 (Nat.zero_le _)))
     have HX:=hid (HI.out.below hb)
     have hw32:=HX.out.bl.size
     clear qx qg qp qz q0 hfs hb h7 HFZ
     dsimp only [List.drop]
     simp only [Act.put,List.setIfInBounds_toArray,List.set_cons_succ,List.set_cons_zero]
     have hko:=HX.out.d
     have hne1:=hid (own_ne_obj HX.out.d HX.out.p (by decide))
     go_wp2_with (at_builtin; refine app_ints rfl _ _ rfl (base:=w.heap.size) (L:=dd) (v:=Value.slice D dd.length kd) rfl hko (by omega) [bits .and .i64 z 1] rfl rfl H7.out hb1 ?_)
     intro A1 k1 w8 ho8 hg8 hl8
     have kx8:=gr_blk hg8 HX.out.p hne1.out
     have cell_8:=kx8.cell
     have froz_8:=kx8.frozen
     have lt_8:=kx8.lt
     have HF:=hid (PubM.dec HX.out (Below.refl _ _) ho8 hg8 (fun q hq=>(hl8 q hq).imp id (fun e=>by omega)))
     clear ho8 hg8 hl8 kx8 hko hne1 cell_x lt_x
     go_wp2
     go_roundw
     case rel=>exact ⟨j + 1,k1,A1,by omega,by go_num,by rw [HST.out]; exact HF.out⟩
     case measure=>simp [intOf]; omega
    ·obtain rfl:j=os.length:=by omega
     rw [List.take_length] at hI hdl
     have hbk:=hI.p
     have cell_p:=hbk.cell
     have froz_p:=hbk.frozen
     have lt_p:=hbk.lt
     have cell_r:=hI.r.cell
     have froz_r:=hI.r.frozen
     have lt_r:=hI.r.lt
     have hne:bp≠w.heap.size + 2:=hI.hr.symm
     have hne2:w.heap.size + 2≠bp:=hI.hr
     have HI:=hid hI
     clear hI hbk hdl
     go_wp2
     ((try simp only [Exit.inBlock,Exit.then]); apply bodyPost_ret0; focus ((try simp only [results,Tryz.results132]); (try go_simp); (try rfl)))
     have hks:=HKS.out
     subst hks
     exact HI.out.give (by exact tchBy) (by omega)
open Go.RowKit
set_option maxHeartbeats 1600000 in
theorem iInputLabels (s a:Int) (A:Option Addr) (c:Nat) (bs:List Int) (w:World) (h1:tapeOkB s a=true) (h2:a≤900000) (hb:bitsB bs=true) (hl:bs.length≤80) (hc:Cells w w.heap.size A (ints bs)) :
  Calls Tryz.prog 94 #[.agg #[.int .i64 s,.int .i64 a],.slice A bs.length c] w (GivesInts w (labsTo s a bs bs.length)):=by
 have h3:decide (900000 < a)=false:=by simp; omega
 have h4:decide (80 < (bs.length:Int))=false:=by simp; omega
 have HD:=hid (fun w=>iDeltaOf s a w h1 h2)
 have HZ:=hid (fun k w h=>iInputZero s a k w h1 h)
 have HBI:=hid (fun (k:Nat) (x:Int) (h:bs[k]? = some x)=>bitsB_get hb h)
 have HBS:=hid (fun w hc=>iBits A c bs w hc (by omega))
 rw [hb] at HBS
 have HC:=hid hc
 clear h2 hb hc
 have hq0:=HC.out
 go_enter Tryz.func94,Tryz.ntmps94
 have b_0:=(Below.refl w.heap.size w)
 have s_0:=b_0.size
 have q_0:=hq0
 clear hq0
 go_wp2_with fail
 refine calls_forget1 (W:=w) (b0:=w.heap.size) (t0:=27) (c0:=#[.int .i64 s,.int .i64 a]) ?_ ?_ ?_
 (focus exact blkcBy)
 (focus (exact belBy))
 intro X1 t_n hX1
 have sX1:=hX1.size
 have t_lt:=t_n.lt
 refine (iTapeOk _ _ _).mono ?_
 rintro e w1 ⟨rfl,hb1⟩
 have s1:=hb1.size
 have hT1:=hX1.trans (hb1.mono sX1)
 have b_1:=b_0.trans (hT1.mono (by omega))
 have q_1:=cells_below q_0 hT1 (by omega)
 have t_1:=Blk.past hb1 t_n
 clear q_0 b_0 t_n hX1 hT1 hb1
 have cell_t:=t_1.cell
 have froz_t:=t_1.frozen
 have lt_t:=t_1.lt
 go_wp2_with fail
 refine calls_forget0 (W:=w1) ?_ ?_
 (focus (exact belBy))
 intro X2 hX2
 have sX2:=hX2.size
 refine (HBS.out _ ((cells_below q_1 hX2 (by omega)).more (by omega))).mono ?_
 rintro e w' ⟨rfl,rfl⟩
 have b_2:=b_1.trans (hX2.mono (by omega))
 have q_2:=cells_below q_1 hX2 (by omega)
 have t_2:=Blk.past hX2 t_1
 clear q_1 t_1 b_1 cell_t froz_t lt_t hX2
 have cell_t:=t_2.cell
 have froz_t:=t_2.frozen
 have lt_t:=t_2.lt
 go_wp2_with fail
 refine calls_forget0 (W:=X2) ?_ ?_
 (focus (exact belBy))
 intro X3 hX3
 have sX3:=hX3.size
 refine (HD.out _).mono ?_
 rintro e w3 ⟨rfl,hb3⟩
 have s3:=hb3.size
 have hT3:=hX3.trans (hb3.mono sX3)
 have b_3:=b_2.trans (hT3.mono (by omega))
 have q_3:=cells_below q_2 hT3 (by omega)
 have t_3:=Blk.past hT3 t_2
 clear q_2 t_2 b_2 cell_t froz_t lt_t hX3 hT3 hb3
 have cell_t:=t_3.cell
 have froz_t:=t_3.frozen
 have lt_t:=t_3.lt
 have HT:=hid t_3
 have HB:=hid b_3
 clear t_3 b_3 q_3
 go_wp2
 go_loopw [7,8,9,36] (fun o _ _ i wr=>∃ (j:Nat) (A':Option Addr) (c':Nat),j≤bs.length∧i=.int .i64 j∧o=.slice A' j c'∧wr.ownsRow (w.heap.size + 1) 3 1 (.slice A' j c') j (ints (labsTo s a bs j))∧Blk wr w.heap.size 27 #[.int .i64 s,.int .i64 a]∧Below w.heap.size w wr) (fun _ _ _ i _=>bs.length - (intOf i).toNat)
 case atStart=>exact ⟨0,some ⟨w3.heap.size + 1,0,none⟩,0,Nat.zero_le _,rfl,rfl,own_lit (size:=1) #[] 0 (by simp) (by simp; omega) (Nat.zero_le _) rfl,by have h:=HT.out; exact blkcBy,by have h:=HB.out; exact belBy⟩
 case round =>
  obtain ⟨j,A',c',hj,rfl,rfl,hown,ht,hb⟩:=hrel
  by_cases hlt:j < bs.length
  ·obtain ⟨x,hx⟩:∃ x,bs[j]? = some x:=⟨_,List.getElem?_eq_getElem hlt⟩
   obtain ⟨b,off,rfl,hB,hcl⟩:=HC.out (by rw [ints_length]; omega)
   have hcell:wr.cell? ⟨b,off + j,none⟩=some (.int .i64 x):=(hb.cell (p:=⟨b,off + j,none⟩) hB).trans (hcl j _ (ints_get hx))
   have HX:=hid (labsTo_succ (s:=s) (a:=a) hx)
   have hbit:=HBI.out j x hx
   have HBIT:=hid hbit
   clear hcl hx hbit
   have b_10:=hb
   have s_10:=b_10.size
   have o_in:=own_in hown
   have o_10:=hown
   clear hown
   have t_10:=ht
   clear ht
   have t_lt:=t_10.lt
   have cell_t:=t_10.cell
   have froz_t:=t_10.frozen
   have lt_t:=t_10.lt
   go_wp2_with fail
   refine calls_forget0 (W:=wr) ?_ ?_
   (focus (exact belBy))
   intro X11 hX11
   have sX11:=hX11.size
   refine (HZ.out _ _ (inB_iff.2 (by omega))).mono ?_
   rintro e w11 ⟨rfl,hb11⟩
   have s11:=hb11.size
   have hT11:=hX11.trans (hb11.mono sX11)
   have b_11:=b_10.trans (hT11.mono (by omega))
   have o_11:=own_below o_10 hT11
   have t_11:=Blk.past hT11 t_10
   clear o_10 t_10 b_10 cell_t froz_t lt_t hX11 hT11 hb11
   have cell_t:=t_11.cell
   have froz_t:=t_11.frozen
   have lt_t:=t_11.lt
   go_wp2_with fail
   refine calls_forget0 (W:=w11) ?_ ?_
   (focus (exact belBy))
   intro X12 hX12
   have sX12:=hX12.size
   refine (iLabelFor _ _ _ _ (zero_label _ _) (delta_label _ _) HBIT.out).mono ?_
   rintro e w12 ⟨rfl,hb12⟩
   have s12:=hb12.size
   have hT12:=hX12.trans (hb12.mono sX12)
   have b_12:=b_11.trans (hT12.mono (by omega))
   have o_12:=own_below o_11 hT12
   have t_12:=Blk.past hT12 t_11
   clear o_11 t_11 b_11 cell_t froz_t lt_t hX12 hT12 hb12
   have cell_t:=t_12.cell
   have froz_t:=t_12.frozen
   have lt_t:=t_12.lt
   go_wp2_with (at_builtin; refine wpList_appi rfl _ _ 30 rfl (w.heap.size + 1) 3 (.int .i64 0) 1 8 Tryz.underlying30 infoInt rfl (by decide) _ j _ rfl (o_12.alloc _) ⟨w12.heap.size,0,none⟩ 1 1 _ rfl rfl (one_new _ _ _) (one_one _) (by omega) (by decide) (by simp; omega) ?_)
   intro A_o c_o w13 o_13 hg13 li13
   have hg13:=grown_alloc hg13
   try simp only [World.size_alloc] at li13
   have s13:=hg13.size
   have b_13:=gr_below hg13 b_12 (by omega) (fun q hq=>by have h1:=o_in q hq; omega)
   have t_13:=gr_blk hg13 t_12 (fun q hq=>by have h1:=o_in q hq; omega)
   have o_ix:=own_in o_13
   clear o_12 t_12 b_12 cell_t froz_t lt_t hg13 li13 o_in
   have o_in:=o_ix
   clear o_ix
   have cell_t:=t_13.cell
   have froz_t:=t_13.frozen
   have lt_t:=t_13.lt
   rw [←ints_snoc,←HX.out] at o_13
   have HO:=hid o_13
   have HT2:=hid t_13
   have HB2:=hid b_13
   clear o_13 t_13 b_13 cell_t froz_t
   go_wp2
   go_roundw
   case rel=>exact ⟨j + 1,A_o,c_o,by omega,by go_num,rfl,HO.out,HT2.out,HB2.out⟩
   case measure=>simp [intOf]; omega
  ·obtain rfl:j=bs.length:=by omega
   have HO:=hid hown
   have HB2:=hid hb
   clear hown ht hb
   go_wp2
   go_ret
   have el:(labsTo s a bs bs.length).length=bs.length:=labsTo_length _ _ _ _
   unfold GivesInts
   rw [el]
   exact ⟨A',c',rfl,own_weak HO.out (by omega),HB2.out⟩
set_option maxHeartbeats 1600000 in
theorem sInputLabels (s a:Int) (A:Option Addr) (c:Nat) (bs:List Int) (w:World) (h1:tapeOkB s a=true) (h2:a≤900000) (hb:bitsB bs=true) (hl:bs.length≤80) (hc:Cells w w.heap.size A (ints bs)) :
  Calls Tryz.prog 69 #[.agg #[.int .i64 s,.int .i64 a],.slice A bs.length c] w (GivesInts w (labsTo s a bs bs.length)):=by
 have h3:(tapeOkB s a && decide (a≤900000))=true:=by simp [h1,h2]
 have h4:decide (80 < (bs.length:Int))=false:=by simp; omega
 have HD:=hid (fun w=>sDeltaOf s a w h1 h2)
 have HZ:=hid (fun k w h=>sInputZero s a k w h1 h)
 have HL:=hid (fun w=>s_l06 s a w)
 rw [h3] at HL
 have HBI:=hid (fun (k:Nat) (x:Int) (h:bs[k]? = some x)=>bitsB_get hb h)
 have HBS:=hid (fun w hc=>sBits A c bs bs.length w hc (by omega))
 rw [hb,show (true && ((bs.length:Int) == (bs.length:Int)))=true by simp] at HBS
 have HC:=hid hc
 clear h2 hb hc h3
 go_enter Tryz.func69,Tryz.ntmps69
 go_upto_region 2 with fail
 obtain ⟨W1,hW1⟩:∃ W1,W1=(w.alloc (.cells #[.int .i64 s,.int .i64 a] 27)).alloc (.cells #[] 3):=⟨_,rfl⟩
 have ho:W1.ownsRow (w.heap.size + 1) 3 1 (.slice (some ⟨w.heap.size + 1,0,none⟩) 0 0) 0 (ints []):=by rw [hW1]; exact own_lit (size:=1) #[] 0 (by simp) (by simp) (Nat.zero_le _) rfl
 have ht:Blk W1 w.heap.size 27 #[.int .i64 s,.int .i64 a]:=by rw [hW1]; exact blkcBy
 have hb1:Below w.heap.size w W1:=by rw [hW1]; exact belBy
 have hq0:=(HC.out.below hb1).more hb1.size
 rw [←hW1]
 clear hW1
 have b_0:=hb1
 have s_0:=b_0.size
 have q_0:=hq0
 clear hq0
 have o_in:=own_in ho
 have o_0:=ho
 clear ho
 have t_0:=ht
 clear ht
 have t_lt:=t_0.lt
 have cell_t:=t_0.cell
 have froz_t:=t_0.frozen
 have lt_t:=t_0.lt
 go_wp2_with fail
 refine calls_forget0 (W:=W1) ?_ ?_
 (focus (exact belBy))
 intro X1 hX1
 have sX1:=hX1.size
 refine (HL.out _).mono ?_
 rintro e w1 ⟨rfl,hb1⟩
 have s1:=hb1.size
 have hT1:=hX1.trans (hb1.mono sX1)
 have b_1:=b_0.trans (hT1.mono (by omega))
 have q_1:=cells_below q_0 hT1 (by omega)
 have o_1:=own_below o_0 hT1
 have t_1:=Blk.past hT1 t_0
 clear q_0 o_0 t_0 b_0 cell_t froz_t lt_t hX1 hT1 hb1
 have cell_t:=t_1.cell
 have froz_t:=t_1.frozen
 have lt_t:=t_1.lt
 go_wp2_with fail
 refine calls_forget0 (W:=w1) ?_ ?_
 (focus (exact belBy))
 intro X2 hX2
 have sX2:=hX2.size
 refine (HBS.out _ ((cells_below q_1 hX2 (by omega)).more (by omega))).mono ?_
 rintro e w' ⟨rfl,rfl⟩
 have b_2:=b_1.trans (hX2.mono (by omega))
 have q_2:=cells_below q_1 hX2 (by omega)
 have o_2:=own_below o_1 hX2
 have t_2:=Blk.past hX2 t_1
 clear q_1 o_1 t_1 b_1 cell_t froz_t lt_t hX2
 have cell_t:=t_2.cell
 have froz_t:=t_2.frozen
 have lt_t:=t_2.lt
 go_wp2_with fail
 refine calls_forget0 (W:=X2) ?_ ?_
 (focus (exact belBy))
 intro X3 hX3
 have sX3:=hX3.size
 refine (HD.out _).mono ?_
 rintro e w3 ⟨rfl,hb3⟩
 have s3:=hb3.size
 have hT3:=hX3.trans (hb3.mono sX3)
 have b_3:=b_2.trans (hT3.mono (by omega))
 have q_3:=cells_below q_2 hT3 (by omega)
 have o_3:=own_below o_2 hT3
 have t_3:=Blk.past hT3 t_2
 clear q_2 o_2 t_2 b_2 cell_t froz_t lt_t hX3 hT3 hb3
 have cell_t:=t_3.cell
 have froz_t:=t_3.frozen
 have lt_t:=t_3.lt
 have HT:=hid t_3
 have HB:=hid b_3
 have HO:=hid o_3
 clear t_3 b_3 q_3 o_3
 go_wp2
 go_loopw [5,8] (fun o i wr=>∃ (j:Nat) (A':Option Addr) (c':Nat),j≤bs.length∧i=.int .i64 j∧o=.slice A' j c'∧wr.ownsRow (w.heap.size + 1) 3 1 (.slice A' j c') j (ints (labsTo s a bs j))∧Blk wr w.heap.size 27 #[.int .i64 s,.int .i64 a]∧Below w.heap.size w wr) (fun _ i _=>bs.length - (intOf i).toNat)
 case atStart=>exact ⟨0,some ⟨w.heap.size + 1,0,none⟩,0,Nat.zero_le _,rfl,rfl,by have h:w3.ownsRow (w.heap.size + 1) 3 1 (.slice (some ⟨w.heap.size + 1,0,none⟩) 0 0) 0 (ints (labsTo s a bs 0)):=HO.out; exact ownBy,by have h:=HT.out; exact blkcBy,by have h:=HB.out; exact belBy⟩
 case round =>
  obtain ⟨j,A',c',hj,rfl,rfl,hown,ht,hb⟩:=hrel
  by_cases hlt:j < bs.length
  ·obtain ⟨x,hx⟩:∃ x,bs[j]? = some x:=⟨_,List.getElem?_eq_getElem hlt⟩
   obtain ⟨b,off,rfl,hB,hcl⟩:=HC.out (by rw [ints_length]; omega)
   have hcell:wr.cell? ⟨b,off + j,none⟩=some (.int .i64 x):=(hb.cell (p:=⟨b,off + j,none⟩) hB).trans (hcl j _ (ints_get hx))
   have HX:=hid (labsTo_succ (s:=s) (a:=a) hx)
   have hbit:=HBI.out j x hx
   have HBIT:=hid hbit
   have zr:=hb.size
   clear hcl hx hbit
   have b_10:=hb
   have s_10:=b_10.size
   have o_in:=own_in hown
   have o_10:=hown
   clear hown
   have t_10:=ht
   clear ht
   have t_lt:=t_10.lt
   have cell_t:=t_10.cell
   have froz_t:=t_10.frozen
   have lt_t:=t_10.lt
   have q_10:=hcell
   clear hcell
   have lt_q:b < wr.heap.size:=by omega
   go_wp2_with fail
   go_region_held3 (fun w'=>w'.cell? ⟨w.heap.size,0,none⟩=some (.int .i64 s)∧w'.cell? ⟨w.heap.size,1,none⟩=some (.int .i64 a)∧w'.cell? ⟨b,off + j,none⟩=some (.int .i64 x)) ((refine ⟨(Blk.cell (t:=27) (cs:=#[.int .i64 s,.int .i64 a]) ?qt 0),(Blk.cell ?qt 1),(by first | ((repeat (first | (with_reducible assumption) | (with_reducible refine cell_drew ?_) | (with_reducible refine cell_alloc ?_ (by first | (dsimp only; omega) | (simp; omega))) | (with_reducible refine cell_far ?_ (by first | (dsimp only; omega) | (simp; omega))))); done) | exact cell_kept q_10 (by exact belBy) (by dsimp only; omega))⟩; (case qt=>(exact blkBy)))) (first | (go_at_call 137; refine calls_forget0 (W:=wr) ?_ ?_; (focus (exact belBy)); intro X11 hX11; have sX11:=hX11.size; refine (HZ.out _ _ (inB_iff.2 (by omega))).mono ?_; rintro e w11 ⟨rfl,hb11⟩; have s11:=hb11.size; have hT11:=hX11.trans (hb11.mono sX11); have b_11:=b_10.trans (hT11.mono (by omega)); have o_11:=own_below o_10 hT11; have t_11:=Blk.past hT11 t_10; have q_11:=cell_kept q_10 hT11 (by dsimp only; omega); clear o_10 t_10 q_10 b_10 cell_t froz_t lt_t lt_q hX11 hT11 hb11; have cell_t:=t_11.cell; have froz_t:=t_11.frozen; have lt_t:=t_11.lt; have lt_q:b < w11.heap.size:=(by omega)) | (go_at_call 136; refine calls_forget0 (W:=w11) ?_ ?_; (focus (exact belBy)); intro X12 hX12; have sX12:=hX12.size; refine (sLabelFor _ _ _ _ (zero_label _ _) (delta_label _ _) HBIT.out).mono ?_; rintro e w12 ⟨rfl,hb12⟩; have s12:=hb12.size; have hT12:=hX12.trans (hb12.mono sX12); have b_12:=b_11.trans (hT12.mono (by omega)); have o_12:=own_below o_11 hT12; have t_12:=Blk.past hT12 t_11; have q_12:=cell_kept q_11 hT12 (by dsimp only; omega); clear o_11 t_11 q_11 b_11 cell_t froz_t lt_t lt_q hX12 hT12 hb12; have cell_t:=t_12.cell; have froz_t:=t_12.frozen; have lt_t:=t_12.lt; have lt_q:b < w12.heap.size:=(by omega)) | (have hgd:=b_12; clear hgd; refine step_app _ rfl _ _ 30 rfl (w.heap.size + 1) 3 (.int .i64 0) 1 8 Tryz.underlying30 infoInt rfl (by decide) (.slice A' j c') j (ints (labsTo s a bs j)) rfl (by have h:=o_12; exact ownBy) ⟨w12.heap.size,0,none⟩ 1 1 _ rfl rfl (one_new w12 _ 3) (one_one _) (by omega) (by decide) (by simp; omega) ?_; intro A2 c2 w13 hown2 hg2; have hb13:=below_row (B:=w.heap.size) (w:=w) (by have h:=b_12; exact belBy) (by simp; omega) o_12 (by omega) hg2; have ht13:Blk w13 w.heap.size 27 #[.int .i64 s,.int .i64 a]:=gr_blk hg2 (by have h:=t_12; exact blkcBy) (fun q hq=>by have h1:=o_in q hq; omega); have hq13:=gr_cell hg2 (p:=⟨b,off + j,none⟩) (v:=.int .i64 x) (by have h:=q_12; (repeat (first | (with_reducible assumption) | (with_reducible refine cell_drew ?_) | (with_reducible refine cell_alloc ?_ (by first | (dsimp only; omega) | (simp; omega)))))) (by simp; omega) (fun q hq=>by have h1:=o_in q hq; dsimp only; omega); rw [←ints_snoc,←HX.out] at hown2; have HO2:=hid hown2; have HB2:=hid hb13; have HT2:=hid ht13; clear hown2 hb13 hg2 o_12 b_12 t_12 q_12))
   all_goals
    go_wp2
    go_roundw
    case rel=>exact ⟨j + 1,A2,c2,by omega,by go_num,rfl,by have h:=HO2.out; exact ownBy,by have h:=HT2.out; exact blkcBy,by have h:=HB2.out; exact belBy⟩
    case measure=>simp [intOf]; omega
  ·obtain rfl:j=bs.length:=by omega
   have HO2:=hid hown
   have HB2:=hid hb
   clear hown ht hb
   go_wp2
   go_ret
   have el:(labsTo s a bs bs.length).length=bs.length:=labsTo_length _ _ _ _
   unfold GivesInts
   rw [el]
   exact ⟨A',c',rfl,own_weak HO2.out (by omega),HB2.out⟩
open Go.RowKit
end Go.Proofs.YtihbaieiempjeaaGreat
