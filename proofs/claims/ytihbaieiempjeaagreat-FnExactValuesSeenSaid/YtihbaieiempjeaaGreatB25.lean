/- Lemmas of the proof: EvGS, SecE, GrowR. -/
import Derived.Test.YtihbaieiempjeaaGreatB0
import Derived.Test.YtihbaieiempjeaaGreatB21
import Derived.Test.YtihbaieiempjeaaGreatB23
import Derived.Test.YtihbaieiempjeaaGreatB24
import Derived.Test.YtihbaieiempjeaaGreatB19
namespace Go.Proofs.YtihbaieiempjeaaGreat
open Go.RowKit
set_option linter.unusedVariables false in
set_option maxRecDepth 100000 in
set_option maxHeartbeats 6400000 in
theorem sEvalGarbled (G O T K D L:Option Addr) (cg co ct ck cd cl:Nat) (gs:List Gt) (os ts cs ds ls:List Int) (w:World) (hg:Cells w w.heap.size G (ints (flatG gs))) (ho:Cells w w.heap.size O (ints os)) (ht:Cells w w.heap.size T (ints ts)) (hc:Cells w w.heap.size K (ints cs)) (hd:Cells w w.heap.size D (ints ds)) (hl:Cells w w.heap.size L (ints ls)) (h:PubOk gs os ts cs ds) (hll:∀ x∈ls,labelB x=true) (hln:ls.length=80) :
  Calls Tryz.prog 133 #[.agg #[.slice G gs.length cg,.slice O os.length co],.agg #[.slice T ts.length ct,.slice K cs.length ck,.slice D ds.length cd],.slice L ls.length cl] w (GivesR w (evTo ts cs ls gs gs.length)):=by
 obtain ⟨hn6,hgv,hov⟩:=circ_parts h.c
 have HC:=hid (And.intro hg (And.intro ho (And.intro ht (And.intro hc (And.intro hd hl)))))
 have HK:=hid (fun w hg ho ht hc hd=>sPublicOk G O T K D cg co ct ck cd gs os ts cs ds w hg ho ht hc hd h)
 have HV:=hid hgv
 have HT:=hid h.t
 have HS:=hid h.k
 have HLL:=hid hll
 have htn:=Nat.le_of_eq h.tn.symm
 have hkn:=Nat.le_of_eq h.kn.symm
 have hln2:=Nat.le_of_eq hln.symm
 have hc4:=cntG_le gs 4
 have HLB:=hid (fun w hc=>sLabels L cl ls (80:Int) w hll hc (by omega))
 rw [show ((ls.length:Int) == 80)=true by rw [hln]; rfl] at HLB
 rw [show GivesR w (evTo ts cs ls gs gs.length)=fun e w'=>∃ A c,e=.returned (.tuple #[.slice A gs.length c,.bool true])∧w'.ownsRow w.heap.size 3 1 (.slice A gs.length c) gs.length (ints (evTo ts cs ls gs gs.length))∧Below w.heap.size w w' by unfold GivesR; rw [evTo_length]]
 clear hg ho ht hc hd hl h hgv hov hll hln
 go_enter Tryz.func133,Tryz.ntmps133
 go_upto_region 2 with fail
 apply wp_forget3 (b0:=w.heap.size) (b1:=w.heap.size + 1) (b2:=w.heap.size + 1 + 1) (w0:=w) (B:=w.heap.size)
 focus (exact blkBy)
 focus (exact blkBy)
 focus (exact blkBy)
 focus (exact belBy)
 intro W1 k0 k1 k2 hbW
 have c0:=k0.cell
 have f0:=k0.frozen
 have z0:=k0.lt
 have c1:=k1.cell
 have f1:=k1.frozen
 have z1:=k1.lt
 have c2:=k2.cell
 have f2:=k2.frozen
 have z2:=k2.lt
 have ho0:=own_empty (base:=w.heap.size) (size:=1) k2 (by omega)
 have hbs:=hbW.size
 have HCW:=hid (And.intro ((HC.out.1.below hbW).more hbW.size) (And.intro ((HC.out.2.1.below hbW).more hbW.size) (And.intro ((HC.out.2.2.1.below hbW).more hbW.size) (And.intro ((HC.out.2.2.2.1.below hbW).more hbW.size) (And.intro ((HC.out.2.2.2.2.1.below hbW).more hbW.size) ((HC.out.2.2.2.2.2.below hbW).more hbW.size))))))
 go_wp2_with fail
 refine Calls.mono (HK.out _ HCW.out.1 HCW.out.2.1 HCW.out.2.2.1 HCW.out.2.2.2.1 HCW.out.2.2.2.2.1) ?_
 rintro e w1 ⟨rfl,hb1⟩
 have hz10:=hb1.size
 have k1a:=k0.past hb1
 have k1b:=k1.past hb1
 clear c0 f0 z0 c1 f1 z1 c2 f2 z2
 have c0:=k1a.cell
 have f0:=k1a.frozen
 have z0:=k1a.lt
 have c1:=k1b.cell
 have f1:=k1b.frozen
 have z1:=k1b.lt
 go_wp2_with fail
 refine Calls.mono (HLB.out _ ((HCW.out.2.2.2.2.2.below hb1).more hz10)) ?_
 rintro e w' ⟨rfl,rfl⟩
 have HU:=hid (And.intro k1a (And.intro k1b (hbW.trans (hb1.mono hbW.size))))
 have HO0:=hid (own_below ho0 hb1)
 clear HCW HK HLB k0 k1 k1a k1b f0 c1 f1 z1 k2 ho0
 have hz1:=HU.out.2.2.size
 go_wp2_with fail
 go_loopw [8,9,10,11,12,13] (fun o ka kc i _ _ wr=>∃ (j k':Nat) (A':Option Addr),j≤gs.length∧i=.int .i64 (j:Int)∧ka=.int .i64 (andG (gs.take j):Int)∧kc=.int .i64 (conG (gs.take j):Int)∧o=.slice A' j k'∧wr.ownsRow w.heap.size 3 1 (.slice A' j k') j (ints (evTo ts cs ls gs j))∧Blk wr w.heap.size TS #[.slice G gs.length cg,.slice O os.length co]∧Blk wr (w.heap.size + 1) TPb #[.slice T ts.length ct,.slice K cs.length ck,.slice D ds.length cd]∧Below w.heap.size w wr) (fun _ _ _ i _ _ _=>gs.length - (intOf i).toNat)
 case atStart=>exact ⟨0,0,some ⟨w.heap.size + 2,0,none⟩,Nat.zero_le _,rfl,rfl,rfl,rfl,HO0.out,HU.out.1,HU.out.2.1,HU.out.2.2⟩
 case round =>
  obtain ⟨j,k',A',hj,rfl,rfl,rfl,rfl,hown,hx0,hp0,hbw⟩:=hrel
  have zw:=hbw.size
  have cell_x:=hx0.cell
  have lt_x:=hx0.lt
  by_cases hlt:j < gs.length
  ·obtain ⟨⟨k,x,y⟩,hx⟩:∃ s,gs[j]? = some s:=⟨_,List.getElem?_eq_getElem hlt⟩
   have hgv:=gatesB_at HV.out hx
   rw [Nat.zero_add] at hgv
   have hst:=ev_step (T:=ts) (C:=cs) (ls:=ls) hx
   have hct:=cnt_step hx
   obtain ⟨bG,og,rfl,hBg,d0,d1,d2⟩:=gt_cells HC.out.1 hbw hx
   have hxl:=evTo_length ts cs ls gs j
   have hlab:=evTo_labels (gs:=gs) HT.out HS.out HLL.out j
   obtain ⟨xs,hxs⟩:∃ c,evTo ts cs ls gs j=c:=⟨_,rfl⟩
   rw [hxs] at hown hst hxl hlab
   have hal:=(cnt_le gs j).1
   obtain ⟨a,hka⟩:∃ c,andG (gs.take j)=c:=⟨_,rfl⟩
   obtain ⟨b,hkb⟩:∃ c,conG (gs.take j)=c:=⟨_,rfl⟩
   have HLT:=hid (And.intro (fun x y (e:gs[j]? = some ⟨4,x,y⟩)=>cnt_lt4 e) (And.intro (fun x y (e:gs[j]? = some ⟨2,x,y⟩)=>cnt_lt2 e) hx))
   rw [hka,hkb] at hst hct HLT
   rw [hka] at hal ⊢
   rw [hkb]
   have hb9:b≤6000:=by have:=(cnt_le gs j).2; have:=cntG_le gs 2; omega
   have hlt':(j:Int) < (gs.length:Int):=by omega
   have hj6:(j:Int) < 6000:=by omega
   have j00:(0:Int)≤(j:Int):=by omega
   have hb1:j + 1≤1000000:=by omega
   have HLAB:=hid hlab
   have HI:=hid (And.intro hown (And.intro hx0 (And.intro hp0 hbw)))
   have HST:=hid hst
   have HCT:=hid hct
   clear hx hlab hxs hka hkb hown hp0 hx0 hbw hst hct
   have b_30:=(Below.refl wr.heap.size wr)
   have s_30:=b_30.size
   go_upto_region 10 with fail
   refine wp_forget1 (w0:=wr) (B:=wr.heap.size) (b0:=wr.heap.size) (t0:=96) (c0:=#[.int .i64 k,.int .i64 x,.int .i64 y]) ?_ ?_ ?_
   (focus exact blkcBy2)
   (focus (exact belBy))
   intro w31 q_31 hX31
   have sX31:=hX31.size
   have q_lt:=q_31.lt
   have b_31:=b_30.trans (hX31.mono (by omega))
   clear b_30 hX31
   have cell_q:=q_31.cell
   have froz_q:=q_31.frozen
   have lt_q:=q_31.lt
   have z31:=b_31.size
   have HI3:=hid (And.intro (own_below HI.out.1 b_31) (And.intro (HI.out.2.1.past b_31) (And.intro (HI.out.2.2.1.past b_31) (And.intro (HI.out.2.2.2.trans (b_31.mono zw)) q_31))))
   clear b_31 q_31 HI d0 d1 d2 cell_x lt_x
   rcases gate_kind hgv with hk | hk | hk | hk | hk
   ·obtain rfl:k=1:=hk
    have hab:=(gate_is1 hgv rfl).1
    dsimp only at hab
    obtain ⟨x,rfl⟩:=Int.eq_ofNat_of_zero_le hab.1
    have hzx:ls[x]? = some (ls.getD x 0):=by rw [List.getD_eq_getElem?_getD,List.getElem?_eq_getElem (by omega)]; rfl
    obtain ⟨bz,oz,rfl,hBz,hcz⟩:=Cells.at_ (HC.out.2.2.2.2.2.below HI3.out.2.2.2.1) (ints_get hzx)
    have fx:=hcz _ _ (ints_get hzx)
    have hxlt:(x:Int) < (ls.length:Int):=by omega
    have hx0:(0:Int)≤(x:Int):=by omega
    obtain ⟨zx,ex⟩:∃ z,ls.getD x 0=z:=⟨_,rfl⟩
    rw [ex] at fx
    have HE:=hid (HST.out.trans (show _=xs ++ [zx] by rw [←ex]; rfl))
    have HA:=hid (HCT.out.1.trans (show _=a from rfl))
    have HB:=hid (HCT.out.2.trans (show _=b from rfl))
    clear hcz hzx ex hgv hab
    go_upto_region 24 with fail
    refine wp_forget0 (w0:=w31) (B:=w31.heap.size) (by exact belBy) ?_
    intro w5 hb
    have z5:=hb.size
    have ho5:=own_below HI3.out.1 hb
    have HB5:=hid (And.intro (HI3.out.2.1.past hb) (And.intro (HI3.out.2.2.1.past hb) (HI3.out.2.2.2.1.trans (hb.mono (by omega)))))
    have hw5:=HB5.out.2.2.size
    clear hb HI3 cell_q froz_q lt_q fx hxlt hx0
    go_wp2_with (at_builtin; refine app_ints rfl _ _ rfl (base:=w.heap.size) (L:=xs) (v:=Value.slice A' j k') rfl (ho5.alloc _) (by simp; omega) [zx] rfl rfl (top_cells _ [_] _) hb1 ?_)
    intro A1 k1 w8 ho8 hg8 hl8
    have hlo:=own_in ho5
    have hgg:=grown_alloc hg8
    have HF:=hid (And.intro ho8 (And.intro (gr_blk hgg HB5.out.1 (own_ne_obj ho5 HB5.out.1 (by decide))) (And.intro (gr_blk hgg HB5.out.2.1 (own_ne_obj ho5 HB5.out.2.1 (by decide))) (gr_below hgg HB5.out.2.2 (by omega) (fun p hp=>by have:=(hlo p hp).1; omega)))))
    clear ho8 hg8 hl8 ho5 hlo hgg
    go_wp2
    go_roundw
    case rel=>exact ⟨j + 1,k1,A1,by omega,by go_num,by rw [HA.out],by rw [HB.out],rfl,by rw [HE.out]; exact HF.out.1,HF.out.2.1,HF.out.2.2.1,HF.out.2.2.2⟩
    case measure=>simp [intOf]; omega
   ·obtain rfl:k=2:=hk
    have hbl:=HLT.out.2.1 _ _ HLT.out.2.2
    have hzx:cs[b]? = some (cs.getD b 0):=by rw [List.getD_eq_getElem?_getD,List.getElem?_eq_getElem (by omega)]; rfl
    obtain ⟨bz,oz,rfl,hBz,hcz⟩:=Cells.at_ (HC.out.2.2.2.1.below HI3.out.2.2.2.1) (ints_get hzx)
    have fx:=hcz _ _ (ints_get hzx)
    have hxlt:(b:Int) < (cs.length:Int):=by omega
    have hx0:(0:Int)≤(b:Int):=by omega
    obtain ⟨zx,ex⟩:∃ z,cs.getD b 0=z:=⟨_,rfl⟩
    rw [ex] at fx
    have hp1:=HI3.out.2.2.1
    have cell_p:=hp1.cell
    have lt_p:=hp1.lt
    have HE:=hid (HST.out.trans (show _=xs ++ [zx] by rw [←ex]; rfl))
    have HA:=hid (HCT.out.1.trans (show _=a from rfl))
    have HB:=hid (HCT.out.2.trans (show _=b + 1 from rfl))
    clear hcz hzx ex hgv hbl hp1
    go_upto_region 24 with fail
    refine wp_forget0 (w0:=w31) (B:=w31.heap.size) (by exact belBy) ?_
    intro w5 hb
    have z5:=hb.size
    have ho5:=own_below HI3.out.1 hb
    have HB5:=hid (And.intro (HI3.out.2.1.past hb) (And.intro (HI3.out.2.2.1.past hb) (HI3.out.2.2.2.1.trans (hb.mono (by omega)))))
    have hw5:=HB5.out.2.2.size
    clear hb HI3 cell_q froz_q lt_q fx hxlt hx0 cell_p lt_p
    go_wp2_with (at_builtin; refine app_ints rfl _ _ rfl (base:=w.heap.size) (L:=xs) (v:=Value.slice A' j k') rfl (ho5.alloc _) (by simp; omega) [zx] rfl rfl (top_cells _ [_] _) hb1 ?_)
    intro A1 k1 w8 ho8 hg8 hl8
    have hlo:=own_in ho5
    have hgg:=grown_alloc hg8
    have HF:=hid (And.intro ho8 (And.intro (gr_blk hgg HB5.out.1 (own_ne_obj ho5 HB5.out.1 (by decide))) (And.intro (gr_blk hgg HB5.out.2.1 (own_ne_obj ho5 HB5.out.2.1 (by decide))) (gr_below hgg HB5.out.2.2 (by omega) (fun p hp=>by have:=(hlo p hp).1; omega)))))
    clear ho8 hg8 hl8 ho5 hlo hgg
    go_wp2
    go_roundw
    case rel=>exact ⟨j + 1,k1,A1,by omega,by go_num,by rw [HA.out],by rw [HB.out]; go_num,rfl,by rw [HE.out]; exact HF.out.1,HF.out.2.1,HF.out.2.2.1,HF.out.2.2.2⟩
    case measure=>simp [intOf]; omega
   ·obtain rfl:k=3:=hk
    have hab:=gate_is34 hgv (.inl rfl)
    dsimp only at hab
    obtain ⟨x,rfl⟩:=Int.eq_ofNat_of_zero_le hab.1.1
    obtain ⟨y,rfl⟩:=Int.eq_ofNat_of_zero_le hab.2.1
    have hzx:xs[x]? = some (xs.getD x 0):=by rw [List.getD_eq_getElem?_getD,List.getElem?_eq_getElem (by omega)]; rfl
    have hzy:xs[y]? = some (xs.getD y 0):=by rw [List.getD_eq_getElem?_getD,List.getElem?_eq_getElem (by omega)]; rfl
    obtain ⟨bz,oz,rfl,hBz,hcz⟩:=Cells.at_ (Cells.of_own HI3.out.1) (ints_get hzx)
    have fx:=hcz _ _ (ints_get hzx)
    have hlx:=getD_label HLAB.out x
    have hxlt:(x:Int) < (j:Int):=by omega
    have hx0:(0:Int)≤(x:Int):=by omega
    obtain ⟨zx,ex⟩:∃ z,xs.getD x 0=z:=⟨_,rfl⟩
    rw [ex] at fx hlx
    have fy:=hcz _ _ (ints_get hzy)
    have hly:=getD_label HLAB.out y
    have hylt:(y:Int) < (j:Int):=by omega
    have hy0:(0:Int)≤(y:Int):=by omega
    obtain ⟨zy,ey⟩:∃ z,xs.getD y 0=z:=⟨_,rfl⟩
    rw [ey] at fy hly
    clear hcz hzx hzy
    have q0:=cell_q 0
    have q1:=cell_q 1
    have q2:=cell_q 2
    dsimp at q0 q1 q2
    have HE:=hid (HST.out.trans (show _=xs ++ [xorI zx zy] by rw [←ex,←ey]; rfl))
    have HA:=hid (HCT.out.1.trans (show _=a from rfl))
    have HB:=hid (HCT.out.2.trans (show _=b from rfl))
    clear hgv hab ex ey
    go_upto_region 18 with fail
    go_quiet (fail)
    go_upto_region 24 with fail
    refine wp_forget0 (w0:=w31) (B:=w31.heap.size) (by exact belBy) ?_
    intro w5 hb
    have z5:=hb.size
    have ho5:=own_below HI3.out.1 hb
    have HB5:=hid (And.intro (HI3.out.2.1.past hb) (And.intro (HI3.out.2.2.1.past hb) (HI3.out.2.2.2.1.trans (hb.mono (by omega)))))
    have hw5:=HB5.out.2.2.size
    clear hb HI3 cell_q froz_q lt_q fx fy hlx hly hxlt hylt hx0 hy0 q0 q1 q2
    go_wp2_with (at_builtin; refine app_ints rfl _ _ rfl (base:=w.heap.size) (L:=xs) (v:=Value.slice (some ⟨bz,oz,none⟩) j k') rfl (ho5.alloc _) (by simp; omega) [xorI zx zy] rfl rfl (top_cells _ [_] _) hb1 ?_)
    intro A1 k1 w8 ho8 hg8 hl8
    have hlo:=own_in ho5
    have hgg:=grown_alloc hg8
    have HF:=hid (And.intro ho8 (And.intro (gr_blk hgg HB5.out.1 (own_ne_obj ho5 HB5.out.1 (by decide))) (And.intro (gr_blk hgg HB5.out.2.1 (own_ne_obj ho5 HB5.out.2.1 (by decide))) (gr_below hgg HB5.out.2.2 (by omega) (fun p hp=>by have:=(hlo p hp).1; omega)))))
    clear ho8 hg8 hl8 ho5 hlo hgg
    go_wp2
    go_roundw
    case rel=>exact ⟨j + 1,k1,A1,by omega,by go_num,by rw [HA.out],by rw [HB.out],rfl,by rw [HE.out]; exact HF.out.1,HF.out.2.1,HF.out.2.2.1,HF.out.2.2.2⟩
    case measure=>simp [intOf]; omega
   ·obtain rfl:k=4:=hk
    have hab:=gate_is34 hgv (.inr rfl)
    dsimp only at hab
    obtain ⟨x,rfl⟩:=Int.eq_ofNat_of_zero_le hab.1.1
    obtain ⟨y,rfl⟩:=Int.eq_ofNat_of_zero_le hab.2.1
    have hal4:=HLT.out.1 _ _ HLT.out.2.2
    have hzx:xs[x]? = some (xs.getD x 0):=by rw [List.getD_eq_getElem?_getD,List.getElem?_eq_getElem (by omega)]; rfl
    have hzy:xs[y]? = some (xs.getD y 0):=by rw [List.getD_eq_getElem?_getD,List.getElem?_eq_getElem (by omega)]; rfl
    obtain ⟨bz,oz,rfl,hBz,hcz⟩:=Cells.at_ (Cells.of_own HI3.out.1) (ints_get hzx)
    have fx:=hcz _ _ (ints_get hzx)
    have hlx:=getD_label HLAB.out x
    have hxlt:(x:Int) < (j:Int):=by omega
    have hx0:(0:Int)≤(x:Int):=by omega
    obtain ⟨zx,ex⟩:∃ z,xs.getD x 0=z:=⟨_,rfl⟩
    rw [ex] at fx hlx
    have fy:=hcz _ _ (ints_get hzy)
    have hly:=getD_label HLAB.out y
    have hylt:(y:Int) < (j:Int):=by omega
    have hy0:(0:Int)≤(y:Int):=by omega
    obtain ⟨zy,ey⟩:∃ z,xs.getD y 0=z:=⟨_,rfl⟩
    rw [ey] at fy hly
    clear hcz hzx hzy
    have ht0:ts[2 * a]? = some (ts.getD (2 * a) 0):=by rw [List.getD_eq_getElem?_getD,List.getElem?_eq_getElem (by omega)]; rfl
    have ht1:ts[2 * a + 1]? = some (ts.getD (2 * a + 1) 0):=by rw [List.getD_eq_getElem?_getD,List.getElem?_eq_getElem (by omega)]; rfl
    obtain ⟨bt,ot,rfl,hBt,hct⟩:=Cells.at_ (HC.out.2.2.1.below HI3.out.2.2.2.1) (ints_get ht0)
    have fg:=hct _ _ (ints_get ht0)
    have fe:=hct _ _ (ints_get ht1)
    have hlg:=getD_label HT.out (2 * a)
    have hle:=getD_label HT.out (2 * a + 1)
    obtain ⟨zg,eg⟩:∃ z,ts.getD (2 * a) 0=z:=⟨_,rfl⟩
    obtain ⟨ze,ee⟩:∃ z,ts.getD (2 * a + 1) 0=z:=⟨_,rfl⟩
    rw [eg] at fg hlg
    rw [ee] at fe hle
    have t0:(2 * (a:Int)).toNat=2 * a:=by omega
    have t1:(2 * (a:Int) + 1).toNat=2 * a + 1:=by omega
    have a00:(0:Int)≤(a:Int):=by omega
    have a6:(a:Int)≤6000:=by omega
    have b00:(0:Int)≤2 * (a:Int):=by omega
    have b01:(0:Int)≤2 * (a:Int) + 1:=by omega
    have b10:2 * (a:Int) < (ts.length:Int):=by omega
    have b11:2 * (a:Int) + 1 < (ts.length:Int):=by omega
    have KA:=hid (fun w=>sEvalAnd zx zy zg ze j w hlx hly hlg hle (by omega))
    have HE:=hid (HST.out.trans (show _=xs ++ [evA zx zy zg ze (j:Int)] by rw [←ex,←ey,←eg,←ee]; rfl))
    have HA:=hid (HCT.out.1.trans (show _=a + 1 from rfl))
    have HB:=hid (HCT.out.2.trans (show _=b from rfl))
    clear hgv hab ex ey eg ee hct ht0 ht1 hlx hly hlg hle hal4
    have q0:=cell_q 0
    dsimp at q0
    go_upto_region 22 with fail
    refine wp_forget0 (w0:=w31) (B:=w31.heap.size) (by exact belBy) ?_
    intro w32 hb32
    have z32:=hb32.size
    have HI4:=hid (And.intro (own_below HI3.out.1 hb32) (And.intro (HI3.out.2.1.past hb32) (And.intro (HI3.out.2.2.1.past hb32) (And.intro (HI3.out.2.2.2.1.trans (hb32.mono (by omega))) (HI3.out.2.2.2.2.past hb32)))))
    have HFX:=hid (And.intro ((hb32.cell (p:=⟨bz,oz + x,none⟩) (by dsimp only; omega)).trans fx) (And.intro ((hb32.cell (p:=⟨bz,oz + y,none⟩) (by dsimp only; omega)).trans fy) (And.intro ((hb32.cell (p:=⟨bt,ot + 2 * a,none⟩) (by dsimp only; omega)).trans fg) ((hb32.cell (p:=⟨bt,ot + (2 * a + 1),none⟩) (by dsimp only; omega)).trans fe))))
    clear fx fy fg fe q0 hb32 cell_q froz_q lt_q HI3
    have qq:=fun (x:Later w32) (o:Nat)=>(HI4.out.2.2.2.2.past x.below).cell o
    have qp:=fun (x:Later w32) (o:Nat)=>(HI4.out.2.2.1.past x.below).cell o
    have fx:=fun (X:Later w32)=>(X.below.cell (p:=⟨bz,oz + x,none⟩) (by dsimp only; omega)).trans HFX.out.1
    have fy:=fun (X:Later w32)=>(X.below.cell (p:=⟨bz,oz + y,none⟩) (by dsimp only; omega)).trans HFX.out.2.1
    have fg:=fun (X:Later w32)=>(X.below.cell (p:=⟨bt,ot + 2 * a,none⟩) (by dsimp only; omega)).trans HFX.out.2.2.1
    have fe:=fun (X:Later w32)=>(X.below.cell (p:=⟨bt,ot + (2 * a + 1),none⟩) (by dsimp only; omega)).trans HFX.out.2.2.2
    refine wp_region_later (by kernel_rfl) (by kernel_rfl) ?_
    repeat (go_big_quiet_step ((go_at_call 178; with_reducible exact Calls.later_same (KA.out _))))
    refine wpQuiet_nil ?_
    rintro _ ⟨⟨w41,hb41⟩,rfl⟩
    try dsimp only
    have z41:=hb41.size
    clear qq qp fx fy fg fe HFX
    go_upto_region 24 with fail
    refine wp_forget0 (w0:=w32) (B:=w32.heap.size) (by exact belBy) ?_
    intro w5 hb
    have z5:=hb.size
    have ho5:=own_below HI4.out.1 hb
    have HB5:=hid (And.intro (HI4.out.2.1.past hb) (And.intro (HI4.out.2.2.1.past hb) (HI4.out.2.2.2.1.trans (hb.mono (by omega)))))
    have hw5:=HB5.out.2.2.size
    clear hb HI4 hxlt hylt hx0 hy0
    go_wp2_with (at_builtin; refine app_ints rfl _ _ rfl (base:=w.heap.size) (L:=xs) (v:=Value.slice (some ⟨bz,oz,none⟩) j k') rfl (ho5.alloc _) (by simp; omega) [evA zx zy zg ze (j:Int)] rfl rfl (top_cells _ [_] _) hb1 ?_)
    intro A1 k1 w8 ho8 hg8 hl8
    have hlo:=own_in ho5
    have hgg:=grown_alloc hg8
    have HF:=hid (And.intro ho8 (And.intro (gr_blk hgg HB5.out.1 (own_ne_obj ho5 HB5.out.1 (by decide))) (And.intro (gr_blk hgg HB5.out.2.1 (own_ne_obj ho5 HB5.out.2.1 (by decide))) (gr_below hgg HB5.out.2.2 (by omega) (fun p hp=>by have:=(hlo p hp).1; omega)))))
    clear ho8 hg8 hl8 ho5 hlo hgg
    go_wp2
    go_roundw
    case rel=>exact ⟨j + 1,k1,A1,by omega,by go_num,by rw [HA.out]; go_num,by rw [HB.out],rfl,by rw [HE.out]; exact HF.out.1,HF.out.2.1,HF.out.2.2.1,HF.out.2.2.2⟩
    case measure=>simp [intOf]; omega
   ·obtain rfl:k=5:=hk
    have hab:=(gate_is5 hgv rfl).1
    dsimp only at hab
    obtain ⟨x,rfl⟩:=Int.eq_ofNat_of_zero_le hab.1
    have hzx:xs[x]? = some (xs.getD x 0):=by rw [List.getD_eq_getElem?_getD,List.getElem?_eq_getElem (by omega)]; rfl
    obtain ⟨bz,oz,rfl,hBz,hcz⟩:=Cells.at_ (Cells.of_own HI3.out.1) (ints_get hzx)
    have fx:=hcz _ _ (ints_get hzx)
    have hlx:=getD_label HLAB.out x
    have hxlt:(x:Int) < (j:Int):=by omega
    have hx0:(0:Int)≤(x:Int):=by omega
    obtain ⟨zx,ex⟩:∃ z,xs.getD x 0=z:=⟨_,rfl⟩
    rw [ex] at fx hlx
    clear hcz hzx
    have HE:=hid (HST.out.trans (show _=xs ++ [zx] by rw [←ex]; rfl))
    have HA:=hid (HCT.out.1.trans (show _=a from rfl))
    have HB:=hid (HCT.out.2.trans (show _=b from rfl))
    clear hgv hab ex
    go_upto_region 24 with fail
    refine wp_forget0 (w0:=w31) (B:=w31.heap.size) (by exact belBy) ?_
    intro w5 hb
    have z5:=hb.size
    have ho5:=own_below HI3.out.1 hb
    have HB5:=hid (And.intro (HI3.out.2.1.past hb) (And.intro (HI3.out.2.2.1.past hb) (HI3.out.2.2.2.1.trans (hb.mono (by omega)))))
    have hw5:=HB5.out.2.2.size
    clear hb HI3 cell_q froz_q lt_q fx hlx hxlt hx0
    go_wp2_with (at_builtin; refine app_ints rfl _ _ rfl (base:=w.heap.size) (L:=xs) (v:=Value.slice (some ⟨bz,oz,none⟩) j k') rfl (ho5.alloc _) (by simp; omega) [zx] rfl rfl (top_cells _ [_] _) hb1 ?_)
    intro A1 k1 w8 ho8 hg8 hl8
    have hlo:=own_in ho5
    have hgg:=grown_alloc hg8
    have HF:=hid (And.intro ho8 (And.intro (gr_blk hgg HB5.out.1 (own_ne_obj ho5 HB5.out.1 (by decide))) (And.intro (gr_blk hgg HB5.out.2.1 (own_ne_obj ho5 HB5.out.2.1 (by decide))) (gr_below hgg HB5.out.2.2 (by omega) (fun p hp=>by have:=(hlo p hp).1; omega)))))
    clear ho8 hg8 hl8 ho5 hlo hgg
    go_wp2
    go_roundw
    case rel=>exact ⟨j + 1,k1,A1,by omega,by go_num,by rw [HA.out],by rw [HB.out],rfl,by rw [HE.out]; exact HF.out.1,HF.out.2.1,HF.out.2.2.1,HF.out.2.2.2⟩
    case measure=>simp [intOf]; omega
  ·obtain rfl:j=gs.length:=by omega
   have HI:=hid (And.intro hown hbw)
   clear hown hbw hp0 hx0
   go_wp2
   ((try simp only [Exit.inBlock,Exit.then]); apply bodyPost_ret0; focus ((try simp only [results,Tryz.results133]); (try go_simp); (try rfl)))
   exact ⟨A',k',rfl,HI.out.1,HI.out.2⟩
open Go.RowKit
def GivesE (w:World) (gs:List Gt) (os ts cs ds ws:List Int) (e:Ending) (w':World):Prop :=
 ∃ G cg O co T ct K ck D cd W cw,e=.returned (.tuple #[.agg #[.slice G gs.length cg,.slice O os.length co],.agg #[.slice T ts.length ct,.slice K cs.length ck,.slice D ds.length cd],.slice W ws.length cw])∧w'.ownsRow w.heap.size TG 3 (.slice G gs.length cg) gs.length (ints (flatG gs)) ∧
  w'.ownsRow w.heap.size 3 1 (.slice O os.length co) os.length (ints os)∧w'.ownsRow w.heap.size 3 1 (.slice T ts.length ct) ts.length (ints ts)∧w'.ownsRow w.heap.size 3 1 (.slice K cs.length ck) cs.length (ints cs)∧w'.ownsRow w.heap.size 3 1 (.slice D ds.length cd) ds.length (ints ds) ∧
  w'.ownsRow w.heap.size 3 1 (.slice W ws.length cw) ws.length (ints ws)∧Below w.heap.size w w'
set_option linter.unusedVariables false in
set_option maxRecDepth 100000 in
set_option maxHeartbeats 6400000 in
theorem sL38Eval (A:Option Addr) (c:Nat) (L:List St) (Q:Option Addr) (cl:Nat) (B:List Int) (s a:Int) (w:World) (hc:Cells w w.heap.size A (ints (flatS L))) (hn:L.length≤1000000000) (hl:Cells w w.heap.size Q (ints (labsTo s a B 80))) (h1:tapeOkB s a=true) (h2:a≤800000) (hu:unrB L=true) :
  Calls Tryz.prog 68 #[.slice A L.length c,.agg #[.int .i64 s,.int .i64 a],.slice Q (labsTo s a B 80).length cl] w (GivesE w (cirG L) (cirO L) (garTs s a (cirG L)) (garCs s a (cirG L)) (decL (garZs s a (cirG L)) (cirO L)) (wireL s a (cirG L) (labsTo s a B 80))):=by
 have hcv:=compL_valid hu
 have hol:=comp_outs L
 have hcir:=cir_valid hu
 obtain ⟨m,hom,hm9⟩:=cirO_len hu
 have hom6:(cirO L).length≤1000000:=by omega
 have hlab:=labs_labels s a B 80
 have hlen:=labsTo_length s a B 80
 have hgk:=gar_ok s a hcir hom6
 have hpk:=pub_ok s a hcir hom6
 have hwl:=wire_labels s a hcir hom6 hlab
 have hwn:=wireL_length s a (cirG L) (labsTo s a B 80)
 have HO:=hid (fun G O cg co w hg ho=>(show Calls Tryz.prog 19 #[.agg #[.slice G (compL L).g.length cg,.slice O (compL L).o.length co]] w (GivesK w (cirG L) (cirO L)) from sOptimize G O cg co (compL L).g (compL L).o w hg ho hcv hol))
 have HGA:=hid (fun G O cg co w hg ho=>(show Calls Tryz.prog 73 #[.agg #[.slice G (cirG L).length cg,.slice O (cirO L).length co],.agg #[.int .i64 s,.int .i64 a]] w (GivesG w (deltaI s a) (garZs s a (cirG L)) (garTs s a (cirG L))) from sGarble G O cg co (cirG L) (cirO L) s a w hg ho hcir hom6 h1 (by omega)))
 have HP:=hid (fun G O Z T cg co cz ct w hg ho hz ht=>(show Calls Tryz.prog 132 #[.agg #[.slice G (cirG L).length cg,.slice O (cirO L).length co],.agg #[.int .i64 (deltaI s a),.slice Z (garZs s a (cirG L)).length cz,.slice T (garTs s a (cirG L)).length ct]] w (GivesP w (garTs s a (cirG L)) (garCs s a (cirG L)) (decL (garZs s a (cirG L)) (cirO L))) from sPublicOf G O Z T cg co cz ct (cirG L) (cirO L) (deltaI s a) (garZs s a (cirG L)) (garTs s a (cirG L)) w hg ho hz ht hgk))
 have HE:=hid (fun G O T K D Q cg co ct ck cd cl w hg ho ht hc hd hl=>(show Calls Tryz.prog 133 #[.agg #[.slice G (cirG L).length cg,.slice O (cirO L).length co],.agg #[.slice T (garTs s a (cirG L)).length ct,.slice K (garCs s a (cirG L)).length ck,.slice D (decL (garZs s a (cirG L)) (cirO L)).length cd],.slice Q (labsTo s a B 80).length cl] w (GivesR w (wireL s a (cirG L) (labsTo s a B 80))) from sEvalGarbled G O T K D Q cg co ct ck cd cl (cirG L) (cirO L) _ _ _ (labsTo s a B 80) w hg ho ht hc hd hl hpk hlab hlen))
 have HC:=hid (fun w hc=>sCompile A c L w hc hn)
 rw [hu] at HC
 obtain ⟨g0,hg0⟩:∃ x,(compL L).g=x:=⟨_,rfl⟩
 obtain ⟨o0,ho0⟩:∃ x,(compL L).o=x:=⟨_,rfl⟩
 obtain ⟨gs,hgs⟩:∃ x,cirG L=x:=⟨_,rfl⟩
 obtain ⟨os,hos⟩:∃ x,cirO L=x:=⟨_,rfl⟩
 obtain ⟨d,hd⟩:∃ x,deltaI s a=x:=⟨_,rfl⟩
 rw [hg0,ho0,hgs,hos] at HO
 rw [hgs,hos,hd] at HGA
 rw [hgs,hos,hd] at HP
 rw [hgs,hos] at HE
 rw [hgs,hos]
 rw [hg0,ho0] at HC
 obtain ⟨zs,hzs⟩:∃ x,garZs s a gs=x:=⟨_,rfl⟩
 obtain ⟨ts,hts⟩:∃ x,garTs s a gs=x:=⟨_,rfl⟩
 obtain ⟨cs,hcs⟩:∃ x,garCs s a gs=x:=⟨_,rfl⟩
 rw [hzs,hts] at HGA
 rw [hzs,hts,hcs] at HP
 rw [hts,hcs,hzs] at HE
 obtain ⟨ds,hds⟩:∃ x,decL zs os=x:=⟨_,rfl⟩
 obtain ⟨LS,hLS⟩:∃ x,labsTo s a B 80=x:=⟨_,rfl⟩
 obtain ⟨ws,hws⟩:∃ x,wireL s a gs LS=x:=⟨_,rfl⟩
 rw [hzs,hts,hcs,hds]
 rw [hds] at HP
 rw [hds,hLS,hws] at HE
 rw [hLS] at hl ⊢
 rw [hws]
 clear hcv hol hcir hom hm9 hom6 hlab hlen hgk hpk hwl hwn hg0 ho0 hgs hos hd hzs hts hcs hds hLS hws hu h1 h2 hn
 go_enter Tryz.func68,Tryz.ntmps68
 have b_0:=(Below.refl w.heap.size w)
 have s_0:=b_0.size
 have xs_0:=hc
 clear hc
 have lb_0:=hl
 clear hl
 go_upto_region 1 with fail
 refine wp_forget3 (w0:=w) (B:=w.heap.size) (b0:=w.heap.size) (t0:=27) (c0:=#[.int .i64 s,.int .i64 a]) (b1:=w.heap.size + 1) (t1:=40) (c1:=#[.slice none 0 0,.slice none 0 0]) (b2:=w.heap.size + 2) (t2:=80) (c2:=#[.slice none 0 0,.slice none 0 0,.slice none 0 0]) ?_ ?_ ?_ ?_ ?_
 (focus exact blkcBy2)
 (focus exact blkcBy2)
 (focus exact blkcBy2)
 (focus (exact belBy))
 intro w1 t_1 r1_1 r2_1 hX1
 have sX1:=hX1.size
 have t_lt:=t_1.lt
 have r1_lt:=r1_1.lt
 have r2_lt:=r2_1.lt
 have b_1:=b_0.trans (hX1.mono (by omega))
 have xs_1:=cells_below xs_0 hX1 (by omega)
 have lb_1:=cells_below lb_0 hX1 (by omega)
 clear xs_0 lb_0 b_0 hX1
 have cell_t:=t_1.cell
 have froz_t:=t_1.frozen
 have lt_t:=t_1.lt
 have cell_r1:=r1_1.cell
 have froz_r1:=r1_1.frozen
 have lt_r1:=r1_1.lt
 have cell_r2:=r2_1.cell
 have froz_r2:=r2_1.frozen
 have lt_r2:=r2_1.lt
 go_wp2_with fail
 refine calls_forget0 (W:=w1) ?_ ?_
 (focus (exact belBy))
 intro X2 hX2
 have sX2:=hX2.size
 refine (HC.out _ ((cells_below xs_1 hX2 (by omega)).more (by omega))).mono ?_
 rintro e w2 ⟨G0,cg0,O0,co0,rfl,g0r_2,o0r_2,hb2⟩
 have s2:=hb2.size
 have hT2:=hX2.trans (hb2.mono sX2)
 have b_2:=b_1.trans (hT2.mono (by omega))
 have xs_2:=cells_below xs_1 hT2 (by omega)
 have lb_2:=cells_below lb_1 hT2 (by omega)
 have t_2:=Blk.past hT2 t_1
 have r1_2:=Blk.past hT2 r1_1
 have r2_2:=Blk.past hT2 r2_1
 have g0r_in:=own_in g0r_2
 have o0r_in:=own_in o0r_2
 clear xs_1 lb_1 t_1 r1_1 r2_1 b_1 cell_t froz_t lt_t cell_r1 froz_r1 lt_r1 cell_r2 froz_r2 lt_r2 hX2 hT2 hb2
 have cell_t:=t_2.cell
 have froz_t:=t_2.frozen
 have lt_t:=t_2.lt
 have cell_r1:=r1_2.cell
 have froz_r1:=r1_2.frozen
 have lt_r1:=r1_2.lt
 have cell_r2:=r2_2.cell
 have froz_r2:=r2_2.frozen
 have lt_r2:=r2_2.lt
 go_upto_region 2 with fail
 refine wp_forget1 (w0:=w2) (B:=w2.heap.size) (b0:=w2.heap.size) (t0:=40) (c0:=#[.slice G0 g0.length cg0,.slice O0 o0.length co0]) ?_ ?_ ?_
 (focus exact blkcBy2)
 (focus (exact belBy))
 intro w3 x_3 hX3
 have sX3:=hX3.size
 have x_lt:=x_3.lt
 have b_3:=b_2.trans (hX3.mono (by omega))
 have xs_3:=cells_below xs_2 hX3 (by omega)
 have lb_3:=cells_below lb_2 hX3 (by omega)
 have g0r_3:=own_below g0r_2 hX3
 have o0r_3:=own_below o0r_2 hX3
 have t_3:=Blk.past hX3 t_2
 have r1_3:=Blk.past hX3 r1_2
 have r2_3:=Blk.past hX3 r2_2
 clear xs_2 lb_2 g0r_2 o0r_2 t_2 r1_2 r2_2 b_2 cell_t froz_t lt_t cell_r1 froz_r1 lt_r1 cell_r2 froz_r2 lt_r2 hX3
 have cell_t:=t_3.cell
 have froz_t:=t_3.frozen
 have lt_t:=t_3.lt
 have cell_r1:=r1_3.cell
 have froz_r1:=r1_3.frozen
 have lt_r1:=r1_3.lt
 have cell_r2:=r2_3.cell
 have froz_r2:=r2_3.frozen
 have lt_r2:=r2_3.lt
 have cell_x:=x_3.cell
 have froz_x:=x_3.frozen
 have lt_x:=x_3.lt
 go_wp2_with fail
 refine calls_forget0 (W:=w3) ?_ ?_
 (focus (exact belBy))
 intro X4 hX4
 have sX4:=hX4.size
 refine (HO.out _ _ _ _ _ (Cells.of_own (own_below g0r_3 hX4)) (Cells.of_own (own_below o0r_3 hX4))).mono ?_
 rintro e w4 ⟨G1,cg1,O1,co1,rfl,g1_4,o1_4,hb4⟩
 have s4:=hb4.size
 have hT4:=hX4.trans (hb4.mono sX4)
 have b_4:=b_3.trans (hT4.mono (by omega))
 have xs_4:=cells_below xs_3 hT4 (by omega)
 have lb_4:=cells_below lb_3 hT4 (by omega)
 have g0r_4:=own_below g0r_3 hT4
 have o0r_4:=own_below o0r_3 hT4
 have t_4:=Blk.past hT4 t_3
 have r1_4:=Blk.past hT4 r1_3
 have r2_4:=Blk.past hT4 r2_3
 have x_4:=Blk.past hT4 x_3
 have g1_in:=own_in g1_4
 have o1_in:=own_in o1_4
 clear xs_3 lb_3 g0r_3 o0r_3 t_3 r1_3 r2_3 x_3 b_3 cell_t froz_t lt_t cell_r1 froz_r1 lt_r1 cell_r2 froz_r2 lt_r2 cell_x froz_x lt_x hX4 hT4 hb4
 have cell_t:=t_4.cell
 have froz_t:=t_4.frozen
 have lt_t:=t_4.lt
 have cell_r1:=r1_4.cell
 have froz_r1:=r1_4.frozen
 have lt_r1:=r1_4.lt
 have cell_r2:=r2_4.cell
 have froz_r2:=r2_4.frozen
 have lt_r2:=r2_4.lt
 have cell_x:=x_4.cell
 have froz_x:=x_4.frozen
 have lt_x:=x_4.lt
 go_upto_region 3 with fail
 refine wp_touch1 (w0:=w4) (L:=[w2.heap.size]) (b0:=w2.heap.size) (t0:=40) (c0:=#[.slice G1 gs.length cg1,.slice O1 os.length co1]) ?_ ?_ ?_
 (focus exact blkcBy2)
 (focus (exact tchBy))
 intro w5 x_5 hX5
 have sX5:=hX5.size
 have b_5:=hX5.below b_4 (by first | (simp; done) | (simp; omega))
 have xs_5:=cells_touch hX5 xs_4 (by omega) (by first | (simp; done) | (simp; omega))
 have lb_5:=cells_touch hX5 lb_4 (by omega) (by first | (simp; done) | (simp; omega))
 have g0r_5:=own_touch' hX5 g0r_4 (fun q hq=>by have h1:=g0r_in q hq; (try have e0:=own_ne_obj g0r_4 x_4 (by decide) q hq); simp; omega)
 have o0r_5:=own_touch' hX5 o0r_4 (fun q hq=>by have h1:=o0r_in q hq; (try have e0:=own_ne_obj o0r_4 x_4 (by decide) q hq); simp; omega)
 have g1_5:=own_touch' hX5 g1_4 (fun q hq=>by have h1:=g1_in q hq; (try have e0:=own_ne_obj g1_4 x_4 (by decide) q hq); simp; omega)
 have o1_5:=own_touch' hX5 o1_4 (fun q hq=>by have h1:=o1_in q hq; (try have e0:=own_ne_obj o1_4 x_4 (by decide) q hq); simp; omega)
 have t_5:=Blk.touch hX5 t_4 (by first | (simp; done) | (simp; omega))
 have r1_5:=Blk.touch hX5 r1_4 (by first | (simp; done) | (simp; omega))
 have r2_5:=Blk.touch hX5 r2_4 (by first | (simp; done) | (simp; omega))
 clear xs_4 lb_4 g0r_4 o0r_4 g1_4 o1_4 t_4 r1_4 r2_4 x_4 b_4 cell_t froz_t lt_t cell_r1 froz_r1 lt_r1 cell_r2 froz_r2 lt_r2 cell_x froz_x lt_x hX5
 have cell_t:=t_5.cell
 have froz_t:=t_5.frozen
 have lt_t:=t_5.lt
 have cell_r1:=r1_5.cell
 have froz_r1:=r1_5.frozen
 have lt_r1:=r1_5.lt
 have cell_r2:=r2_5.cell
 have froz_r2:=r2_5.frozen
 have lt_r2:=r2_5.lt
 have cell_x:=x_5.cell
 have froz_x:=x_5.frozen
 have lt_x:=x_5.lt
 go_wp2_with fail
 refine calls_forget0 (W:=w5) ?_ ?_
 (focus (exact belBy))
 intro X6 hX6
 have sX6:=hX6.size
 refine (HGA.out _ _ _ _ _ (Cells.of_own (own_below g1_5 hX6)) (Cells.of_own (own_below o1_5 hX6))).mono ?_
 rintro e w6 ⟨Z,cz,T,ct,rfl,zz_6,tt_6,hb6⟩
 have s6:=hb6.size
 have hT6:=hX6.trans (hb6.mono sX6)
 have b_6:=b_5.trans (hT6.mono (by omega))
 have xs_6:=cells_below xs_5 hT6 (by omega)
 have lb_6:=cells_below lb_5 hT6 (by omega)
 have g0r_6:=own_below g0r_5 hT6
 have o0r_6:=own_below o0r_5 hT6
 have g1_6:=own_below g1_5 hT6
 have o1_6:=own_below o1_5 hT6
 have t_6:=Blk.past hT6 t_5
 have r1_6:=Blk.past hT6 r1_5
 have r2_6:=Blk.past hT6 r2_5
 have x_6:=Blk.past hT6 x_5
 have zz_in:=own_in zz_6
 have tt_in:=own_in tt_6
 clear xs_5 lb_5 g0r_5 o0r_5 g1_5 o1_5 t_5 r1_5 r2_5 x_5 b_5 cell_t froz_t lt_t cell_r1 froz_r1 lt_r1 cell_r2 froz_r2 lt_r2 cell_x froz_x lt_x hX6 hT6 hb6
 have cell_t:=t_6.cell
 have froz_t:=t_6.frozen
 have lt_t:=t_6.lt
 have cell_r1:=r1_6.cell
 have froz_r1:=r1_6.frozen
 have lt_r1:=r1_6.lt
 have cell_r2:=r2_6.cell
 have froz_r2:=r2_6.frozen
 have lt_r2:=r2_6.lt
 have cell_x:=x_6.cell
 have froz_x:=x_6.frozen
 have lt_x:=x_6.lt
 go_upto_region 4 with fail
 refine wp_forget1 (w0:=w6) (B:=w6.heap.size) (b0:=w6.heap.size) (t0:=76) (c0:=#[.int .i64 d,.slice Z zs.length cz,.slice T ts.length ct]) ?_ ?_ ?_
 (focus exact blkcBy2)
 (focus (exact belBy))
 intro w7 ga_7 hX7
 have sX7:=hX7.size
 have ga_lt:=ga_7.lt
 have b_7:=b_6.trans (hX7.mono (by omega))
 have xs_7:=cells_below xs_6 hX7 (by omega)
 have lb_7:=cells_below lb_6 hX7 (by omega)
 have g0r_7:=own_below g0r_6 hX7
 have o0r_7:=own_below o0r_6 hX7
 have g1_7:=own_below g1_6 hX7
 have o1_7:=own_below o1_6 hX7
 have zz_7:=own_below zz_6 hX7
 have tt_7:=own_below tt_6 hX7
 have t_7:=Blk.past hX7 t_6
 have r1_7:=Blk.past hX7 r1_6
 have r2_7:=Blk.past hX7 r2_6
 have x_7:=Blk.past hX7 x_6
 clear xs_6 lb_6 g0r_6 o0r_6 g1_6 o1_6 zz_6 tt_6 t_6 r1_6 r2_6 x_6 b_6 cell_t froz_t lt_t cell_r1 froz_r1 lt_r1 cell_r2 froz_r2 lt_r2 cell_x froz_x lt_x hX7
 have cell_t:=t_7.cell
 have froz_t:=t_7.frozen
 have lt_t:=t_7.lt
 have cell_r1:=r1_7.cell
 have froz_r1:=r1_7.frozen
 have lt_r1:=r1_7.lt
 have cell_r2:=r2_7.cell
 have froz_r2:=r2_7.frozen
 have lt_r2:=r2_7.lt
 have cell_x:=x_7.cell
 have froz_x:=x_7.frozen
 have lt_x:=x_7.lt
 have cell_ga:=ga_7.cell
 have froz_ga:=ga_7.frozen
 have lt_ga:=ga_7.lt
 go_wp2_with fail
 refine calls_forget0 (W:=w7) ?_ ?_
 (focus (exact belBy))
 intro X8 hX8
 have sX8:=hX8.size
 refine (HP.out _ _ _ _ _ _ _ _ _ (Cells.of_own (own_below g1_7 hX8)) (Cells.of_own (own_below o1_7 hX8)) (Cells.of_own (own_below zz_7 hX8)) (own_weak (own_below tt_7 hX8) (Nat.zero_le _))).mono ?_
 rintro e w8 ⟨T2,ct2,K,ck,D,cd,rfl,t2_8,kk_8,dd_8,hb8⟩
 have s8:=hb8.size
 have hT8:=hX8.trans (hb8.mono sX8)
 have b_8:=b_7.trans (hT8.mono (by omega))
 have xs_8:=cells_below xs_7 hT8 (by omega)
 have lb_8:=cells_below lb_7 hT8 (by omega)
 have g0r_8:=own_below g0r_7 hT8
 have o0r_8:=own_below o0r_7 hT8
 have g1_8:=own_below g1_7 hT8
 have o1_8:=own_below o1_7 hT8
 have zz_8:=own_below zz_7 hT8
 have tt_8:=own_below tt_7 hT8
 have t_8:=Blk.past hT8 t_7
 have r1_8:=Blk.past hT8 r1_7
 have r2_8:=Blk.past hT8 r2_7
 have x_8:=Blk.past hT8 x_7
 have ga_8:=Blk.past hT8 ga_7
 have t2_in:=own_in t2_8
 have kk_in:=own_in kk_8
 have dd_in:=own_in dd_8
 clear xs_7 lb_7 g0r_7 o0r_7 g1_7 o1_7 zz_7 tt_7 t_7 r1_7 r2_7 x_7 ga_7 b_7 cell_t froz_t lt_t cell_r1 froz_r1 lt_r1 cell_r2 froz_r2 lt_r2 cell_x froz_x lt_x cell_ga froz_ga lt_ga hX8 hT8 hb8
 have cell_t:=t_8.cell
 have froz_t:=t_8.frozen
 have lt_t:=t_8.lt
 have cell_r1:=r1_8.cell
 have froz_r1:=r1_8.frozen
 have lt_r1:=r1_8.lt
 have cell_r2:=r2_8.cell
 have froz_r2:=r2_8.frozen
 have lt_r2:=r2_8.lt
 have cell_x:=x_8.cell
 have froz_x:=x_8.frozen
 have lt_x:=x_8.lt
 have cell_ga:=ga_8.cell
 have froz_ga:=ga_8.frozen
 have lt_ga:=ga_8.lt
 go_upto_region 5 with fail
 refine wp_forget1 (w0:=w8) (B:=w8.heap.size) (b0:=w8.heap.size) (t0:=80) (c0:=#[.slice T2 ts.length ct2,.slice K cs.length ck,.slice D ds.length cd]) ?_ ?_ ?_
 (focus exact blkcBy2)
 (focus (exact belBy))
 intro w9 pu_9 hX9
 have sX9:=hX9.size
 have pu_lt:=pu_9.lt
 have b_9:=b_8.trans (hX9.mono (by omega))
 have xs_9:=cells_below xs_8 hX9 (by omega)
 have lb_9:=cells_below lb_8 hX9 (by omega)
 have g0r_9:=own_below g0r_8 hX9
 have o0r_9:=own_below o0r_8 hX9
 have g1_9:=own_below g1_8 hX9
 have o1_9:=own_below o1_8 hX9
 have zz_9:=own_below zz_8 hX9
 have tt_9:=own_below tt_8 hX9
 have t2_9:=own_below t2_8 hX9
 have kk_9:=own_below kk_8 hX9
 have dd_9:=own_below dd_8 hX9
 have t_9:=Blk.past hX9 t_8
 have r1_9:=Blk.past hX9 r1_8
 have r2_9:=Blk.past hX9 r2_8
 have x_9:=Blk.past hX9 x_8
 have ga_9:=Blk.past hX9 ga_8
 clear xs_8 lb_8 g0r_8 o0r_8 g1_8 o1_8 zz_8 tt_8 t2_8 kk_8 dd_8 t_8 r1_8 r2_8 x_8 ga_8 b_8 cell_t froz_t lt_t cell_r1 froz_r1 lt_r1 cell_r2 froz_r2 lt_r2 cell_x froz_x lt_x cell_ga froz_ga lt_ga hX9
 have cell_t:=t_9.cell
 have froz_t:=t_9.frozen
 have lt_t:=t_9.lt
 have cell_r1:=r1_9.cell
 have froz_r1:=r1_9.frozen
 have lt_r1:=r1_9.lt
 have cell_r2:=r2_9.cell
 have froz_r2:=r2_9.frozen
 have lt_r2:=r2_9.lt
 have cell_x:=x_9.cell
 have froz_x:=x_9.frozen
 have lt_x:=x_9.lt
 have cell_ga:=ga_9.cell
 have froz_ga:=ga_9.frozen
 have lt_ga:=ga_9.lt
 have cell_pu:=pu_9.cell
 have froz_pu:=pu_9.frozen
 have lt_pu:=pu_9.lt
 go_wp2_with fail
 refine calls_forget0 (W:=w9) ?_ ?_
 (focus (exact belBy))
 intro X10 hX10
 have sX10:=hX10.size
 refine (HE.out _ _ _ _ _ _ _ _ _ _ _ _ _ (Cells.of_own (own_below g1_9 hX10)) (Cells.of_own (own_below o1_9 hX10)) (Cells.of_own (own_below t2_9 hX10)) (Cells.of_own (own_below kk_9 hX10)) (Cells.of_own (own_below dd_9 hX10)) ((cells_below lb_9 hX10 (by omega)).more (by omega))).mono ?_
 rintro e w10 ⟨A5,c5,rfl,wr5_10,hb10⟩
 have s10:=hb10.size
 have hT10:=hX10.trans (hb10.mono sX10)
 have b_10:=b_9.trans (hT10.mono (by omega))
 have xs_10:=cells_below xs_9 hT10 (by omega)
 have lb_10:=cells_below lb_9 hT10 (by omega)
 have g0r_10:=own_below g0r_9 hT10
 have o0r_10:=own_below o0r_9 hT10
 have g1_10:=own_below g1_9 hT10
 have o1_10:=own_below o1_9 hT10
 have zz_10:=own_below zz_9 hT10
 have tt_10:=own_below tt_9 hT10
 have t2_10:=own_below t2_9 hT10
 have kk_10:=own_below kk_9 hT10
 have dd_10:=own_below dd_9 hT10
 have t_10:=Blk.past hT10 t_9
 have r1_10:=Blk.past hT10 r1_9
 have r2_10:=Blk.past hT10 r2_9
 have x_10:=Blk.past hT10 x_9
 have ga_10:=Blk.past hT10 ga_9
 have pu_10:=Blk.past hT10 pu_9
 have wr5_in:=own_in wr5_10
 clear xs_9 lb_9 g0r_9 o0r_9 g1_9 o1_9 zz_9 tt_9 t2_9 kk_9 dd_9 t_9 r1_9 r2_9 x_9 ga_9 pu_9 b_9 cell_t froz_t lt_t cell_r1 froz_r1 lt_r1 cell_r2 froz_r2 lt_r2 cell_x froz_x lt_x cell_ga froz_ga lt_ga cell_pu froz_pu lt_pu hX10 hT10 hb10
 have cell_t:=t_10.cell
 have froz_t:=t_10.frozen
 have lt_t:=t_10.lt
 have cell_r1:=r1_10.cell
 have froz_r1:=r1_10.frozen
 have lt_r1:=r1_10.lt
 have cell_r2:=r2_10.cell
 have froz_r2:=r2_10.frozen
 have lt_r2:=r2_10.lt
 have cell_x:=x_10.cell
 have froz_x:=x_10.frozen
 have lt_x:=x_10.lt
 have cell_ga:=ga_10.cell
 have froz_ga:=ga_10.frozen
 have lt_ga:=ga_10.lt
 have cell_pu:=pu_10.cell
 have froz_pu:=pu_10.frozen
 have lt_pu:=pu_10.lt
 have HR:=hid (And.intro (own_weak g1_10 (show w.heap.size + 3≤_ by omega)) (And.intro (own_weak o1_10 (show w.heap.size + 3≤_ by omega)) (And.intro (own_weak t2_10 (show w.heap.size + 3≤_ by omega)) (And.intro (own_weak kk_10 (show w.heap.size + 3≤_ by omega)) (And.intro (own_weak dd_10 (show w.heap.size + 3≤_ by omega)) (And.intro (own_weak wr5_10 (show w.heap.size + 3≤_ by omega)) b_10))))))
 clear g0r_10 o0r_10 g1_10 o1_10 zz_10 tt_10 t2_10 kk_10 dd_10 wr5_10 xs_10 lb_10 b_10
 go_upto_region 6 with fail
 go_region
 all_goals
  go_wp2
  ((try simp only [Exit.inBlock,Exit.then]); apply bodyPost_ret0; focus ((try simp only [results,Tryz.results68]); (try go_simp); (try rfl)))
  have hr:=HR.out
  have hz:=hr.2.2.2.2.2.2.size
  refine ⟨G1,cg1,O1,co1,T2,ct2,K,ck,D,cd,A5,c5,rfl,?_,?_,?_,?_,?_,?_,?_⟩
  ·exact own_weak (own_touch' (L:=[w.heap.size + 1,w.heap.size + 1 + 1]) (w:=w10) (by exact tchBy) hr.1 (fun q hq=>by have:=(own_in hr.1 q hq).1; simp; omega)) (by omega)
  ·exact own_weak (own_touch' (L:=[w.heap.size + 1,w.heap.size + 1 + 1]) (w:=w10) (by exact tchBy) hr.2.1 (fun q hq=>by have:=(own_in hr.2.1 q hq).1; simp; omega)) (by omega)
  ·exact own_weak (own_touch' (L:=[w.heap.size + 1,w.heap.size + 1 + 1]) (w:=w10) (by exact tchBy) hr.2.2.1 (fun q hq=>by have:=(own_in hr.2.2.1 q hq).1; simp; omega)) (by omega)
  ·exact own_weak (own_touch' (L:=[w.heap.size + 1,w.heap.size + 1 + 1]) (w:=w10) (by exact tchBy) hr.2.2.2.1 (fun q hq=>by have:=(own_in hr.2.2.2.1 q hq).1; simp; omega)) (by omega)
  ·exact own_weak (own_touch' (L:=[w.heap.size + 1,w.heap.size + 1 + 1]) (w:=w10) (by exact tchBy) hr.2.2.2.2.1 (fun q hq=>by have:=(own_in hr.2.2.2.2.1 q hq).1; simp; omega)) (by omega)
  ·exact own_weak (own_touch' (L:=[w.heap.size + 1,w.heap.size + 1 + 1]) (w:=w10) (by exact tchBy) hr.2.2.2.2.2.1 (fun q hq=>by have:=(own_in hr.2.2.2.2.2.1 q hq).1; simp; omega)) (by omega)
  ·exact Touch.below' (L:=[w.heap.size + 1,w.heap.size + 1 + 1]) (w:=w10) (by exact tchBy) hr.2.2.2.2.2.2 (fun i hi=>by simp at hi; omega) hz
end Go.Proofs.YtihbaieiempjeaaGreat
set_option linter.unusedVariables false
namespace Go.Proofs.YtihbaieiempjeaaGreat
open Go.RowKit
theorem wp_growR {P:Program} {spec:Nat→GSpec} {Q:Exit→Act→World→Prop} {a:Act} {w:World} {id:Nat} {l:List Oper} {C:World→Prop} {R:World→World→Prop}
  (hm:P.follows .mixedOrders=true) (hB:growB l.toArray=true) (hW:C w.drew) (hCR:∀ w w',C w→R w w'→C w') (hstab:∀ k F,spec k=.any F→∀ v w w',F v w→R w w'→F v w')
  (h:gList P l.toArray C R spec (fun fs a'=>∀ w',C w'→(∀ j,fs j w')→Q .normal a' w') 0 l Facts.none a):(Code.region id l.toArray true).wp P Q a w:=by
 simp only [growB,Bool.and_eq_true] at hB
 obtain ⟨⟨hsel,htopo⟩,hap⟩:=hB
 refine wp_region_any hm ?_
 have h2:=gList_walk (n:=0) l 0 Facts.none a (fun j hj=>by simp) h
 have H:=gAny (P:=P) (g:=0) (Q:=Q) (n:=l.toArray.size) (Nat.le_refl _) hsel htopo hap hCR hstab (E:=fun fs a'=>∀ w',C w'→(∀ j,fs j w')→Q .normal a' w')
  (fun listed fs a' w' inv hnil hC hfs hE=>by
   refine ⟨?_,hE w' hC hfs⟩
   cases hr:Region.ready .any l.toArray listed with
   | nil=>rfl
   | cons t ts =>
    have ht:=(mem_ready.1 (show t∈Region.ready .any l.toArray listed by rw [hr]; simp))
    have hlt:t < l.toArray.size:=by
     obtain ⟨_,o,ho,_⟩:=ht
     exact (Array.getElem?_eq_some_iff.1 ho).1
    have:=mem_heads.2 ⟨hlt,ht.1⟩
    rw [hnil] at this
    cases this)
  (fun listed inv _ t ht=>by
   obtain ⟨_,o,ho,_⟩:=mem_ready.1 ht
   exact (Array.getElem?_eq_some_iff.1 ho).1)
  l.length (Array.replicate l.toArray.size false) Facts.none a w.drew (inv_start _ _) (by rw [heads_all _ _ (Nat.le_refl _)]; simp) (by rw [heads_all _ _ (Nat.le_refl _)]; simpa using h2) hW (fun _=>trivial) (fun _ _ _ _ _=>trivial)
 simpa using H
theorem specR_stab {R:World→World→Prop}:∀ {l:List (Nat × GSpec)},(∀ p∈l,∀ F,p.2=.any F→∀ v w w',F v w→R w w'→F v w')→∀ k F,specAt l k=.any F→∀ v w w',F v w→R w w'→F v w':=by
 intro l h k F hk
 unfold specAt at hk
 split at hk
 ·rename_i G hG
  subst hk
  have:∀ (l:List (Nat × GSpec)),l.lookup k=some (.any F)→∃ p∈l,p.2=.any F:=by
   intro l
   induction l with
   | nil=>intro h; cases h
   | cons p l ih =>
    intro h
    obtain ⟨a,b⟩:=p
    rw [List.lookup_cons] at h
    split at h
    ·cases h
     exact ⟨_,List.mem_cons_self,rfl⟩
    ·obtain ⟨p,hp,e⟩:=ih h
     exact ⟨p,List.mem_cons_of_mem _ hp,e⟩
  obtain ⟨p,hp,e⟩:=this l hG
  exact h p hp F e
 ·cases hk
def Keeps (W w w':World):Prop:=Below W.heap.size w w'∧∀ (i:Nat) (cs:Array Value) (t:TypeId) (q:Nat × Nat),w.heap[i]? = some (.cells cs t q)→∃ cs',w'.heap[i]? = some (.cells cs' t q)∧cs'.size=cs.size∧(t≠TS→t≠TPb→cs'=cs)
theorem Keeps.refl (W w:World):Keeps W w w:=⟨Below.refl _ _,fun _ cs _ _ h=>⟨cs,h,rfl,fun _ _=>rfl⟩⟩
theorem lt_of_some {w:World} {i:Nat} {o:Obj} (h:w.heap[i]? = some o):i < w.heap.size:=(Array.getElem?_eq_some_iff.1 h).1
theorem Keeps.of_below {W w w':World} (h:Below w.heap.size w w') (hW:W.heap.size≤w.heap.size):Keeps W w w' :=
 ⟨h.mono hW,fun i cs t q hi=>⟨cs,(h.block i (lt_of_some hi)).trans hi,rfl,fun _ _=>rfl⟩⟩
theorem Keeps.step {W w w':World} (h:Onward W w) (k:Keeps W w w'):Onward W w':=Onward.mk' (h.below.trans k.1)
theorem Keeps.row {W w w':World} {base e size n:Nat} {xs:List Value} {v:Value} (h:RowOf base e size n xs v w) (k:Keeps W w w') (h1:e≠TS) (h2:e≠TPb):RowOf base e size n xs v w':=by
 obtain ⟨A,c,rfl,ho⟩:=h
 refine ⟨A,c,rfl,ho.1,?_⟩
 rcases ho.2 with hv | ⟨g,cap,cur,hv,hg,hh,r⟩
 ·exact .inl hv
 ·obtain ⟨cs',e1,_,e3⟩:=k.2 g _ _ _ hh
  rw [e3 h1 h2] at e1
  exact .inr ⟨g,cap,cur,hv,hg,e1,r⟩
def EvT (base n:Nat) (xs:List Value) (v:Value) (w:World):Prop:=∃ x0 x1 y0 y1 y2 u,v=.tuple #[.agg #[x0,x1],.agg #[y0,y1,y2],u]∧(∀ z∈[x0,x1,y0,y1,y2],z.oneCell'=true)∧RowOf base 3 1 n xs u w
def BoxT (base t n:Nat) (v:Value) (w:World):Prop:=∃ b cs,v=.pointer (some ⟨b,0,none⟩)∧base≤b∧w.heap[b]? = some (.cells cs t (0,0))∧cs.size=n
def Agg2 (v:Value) (_:World):Prop:=∃ x0 x1,v=.agg #[x0,x1]∧∀ z∈[x0,x1],z.oneCell'=true
def Agg3 (v:Value) (_:World):Prop:=∃ x0 x1 x2,v=.agg #[x0,x1,x2]∧∀ z∈[x0,x1,x2],z.oneCell'=true
theorem Keeps.ev {W w w':World} {base n:Nat} {xs:List Value} {v:Value} (h:EvT base n xs v w) (k:Keeps W w w'):EvT base n xs v w':=by
 obtain ⟨x0,x1,y0,y1,y2,u,rfl,h1,h⟩:=h
 exact ⟨x0,x1,y0,y1,y2,u,rfl,h1,k.row h (by decide) (by decide)⟩
theorem Keeps.box {W w w':World} {base t n:Nat} {v:Value} (h:BoxT base t n v w) (k:Keeps W w w'):BoxT base t n v w':=by
 obtain ⟨b,cs,rfl,hb,hh,hn⟩:=h
 obtain ⟨cs',e1,e2,_⟩:=k.2 b _ _ _ hh
 exact ⟨b,cs',rfl,hb,e1,e2.trans hn⟩
theorem Keeps.set_ {W w:World} {b i:Nat} {t:TypeId} {cs:Array Value} {u:Value} (h:Blk w b t cs) (hW:W.heap.size≤b) (ht:t=TS∨t=TPb):Keeps W w (w.setCell ⟨b,i,none⟩ u):=by
 refine ⟨(Below.refl _ _).setCell hW _,fun j cs' t' q hj=>?_⟩
 by_cases e:j=b
 ·subst e
  have h2:Blk (w.setCell ⟨j,i,none⟩ u) j t (cs.setIfInBounds i u):=h.set_ i u
  unfold Blk at h h2
  rw [h] at hj
  injection hj with hj
  injection hj with e1 e2 e3
  subst e1 e2 e3
  exact ⟨_,h2,by simp,fun n1 n2=>by rcases ht with h | h; exact absurd h n1; exact absurd h n2⟩
 ·exact ⟨cs',(Below.heap_setCell w _ _ j e).trans hj,rfl,fun _ _=>rfl⟩
theorem Keeps.trans {W w w1 w':World} (h:Keeps W w w1) (k:Keeps W w1 w'):Keeps W w w' :=
 ⟨h.1.trans k.1,fun i cs t q hi=>by
  obtain ⟨c1,e1,s1,f1⟩:=h.2 i cs t q hi
  obtain ⟨c2,e2,s2,f2⟩:=k.2 i c1 t q e1
  exact ⟨c2,e2,s2.trans s1,fun n1 n2=>(f2 n1 n2).trans (f1 n1 n2)⟩⟩
theorem run_storeB {P:Program} {w:World} {b o:Nat} {t:TypeId} {cs:Array Value} {u v:Value} (hk:Blk w b t cs) (hu:cs[o]? = some u) (h1:v.oneCell'=true):Sem.run P (store ⟨b,o,none⟩ v) w=.ok () (w.setCell ⟨b,o,none⟩ v):=by
 have e:=run_store P w ⟨b,o,none⟩ v .plain h1
 rw [show Sem.run P (store ⟨b,o,none⟩ v) w=stored P w ⟨b,o,none⟩ v .plain from e]
 unfold stored
 rw [hk.cell,hu,hk.frozen]
 rfl
theorem size2 {cs:Array Value} (h:cs.size=2):∃ a b,cs=#[a,b]:=by
 obtain ⟨l⟩:=cs
 match l,h with
 | [a,b],_=>exact ⟨a,b,rfl⟩
theorem size3 {cs:Array Value} (h:cs.size=3):∃ a b c,cs=#[a,b,c]:=by
 obtain ⟨l⟩:=cs
 match l,h with
 | [a,b,c],_=>exact ⟨a,b,c,rfl⟩
section
variable {P:Program} {W w:World} {F:Value→World→Prop} {r:Result Next}
theorem growR_value {v:Value} (h:r=.ok (.value v) w) (hF:F v w):growUpon P (Keeps W) F w r:=by
 rw [h]
 exact ⟨Keeps.refl _ _,hF⟩
theorem growR_call {f:FuncId} {args:Array Value} (hr:r=.ok (.enter f args) w) (hW:W.heap.size≤w.heap.size) (h:Calls P f args w fun e w''=>∃ v,e=.returned v∧Below w.heap.size w w''∧F v w''):growUpon P (Keeps W) F w r:=by
 rw [hr]
 exact h.mono fun e w' ⟨v,h1,h2,h3⟩=>⟨v,h1,Keeps.of_below h2 hW,h3⟩
theorem growR_alloc {t n:Nat} {cs:Array Value} (h:r=.ok (.value (.pointer (some ⟨w.heap.size,0,none⟩))) (w.alloc (.cells cs t))) (hn:cs.size=n) (hW:W.heap.size≤w.heap.size):growUpon P (Keeps W) (BoxT W.heap.size t n) w r:=by
 rw [h]
 exact ⟨Keeps.of_below ((Below.refl _ _).alloc (Nat.le_refl _) _) hW,w.heap.size,cs,rfl,hW,(Blk.new rfl:Blk (w.alloc (.cells cs t)) w.heap.size t cs),hn⟩
theorem growR_skip {w':World} (h:r=.ok .skip w') (hk:Keeps W w w'):growUpon P (Keeps W) (fun _ _=>True) w r:=by
 rw [h]
 exact ⟨hk,trivial⟩
end
end Go.Proofs.YtihbaieiempjeaaGreat
