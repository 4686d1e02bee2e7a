/- Lemmas of the proof: Circ, Bld, Gate, Full, Bld2, Sum, Grow. -/
import Derived.Test.YtihbaieiempjeaaGreatB0
import Derived.Test.YtihbaieiempjeaaGreatB5
import Derived.Maps.AppendAt
import Derived.StillTailTactics
import Derived.Deep.RegionHeld3
import Derived.StillTail
namespace Go.Proofs.YtihbaieiempjeaaGreat
open Go.RowKit
theorem gt_cells {w wr:World} {B:Nat} {A:Option Addr} {L:List Gt} (h:Cells w B A (ints (flatG L))) (hb:Below B w wr) {j:Nat} {k x y:Int} (hj:L[j]? = some ⟨k,x,y⟩) :
  ∃ b off,A=some ⟨b,off,none⟩∧b < B∧wr.cell? ⟨b,off + j * 3,none⟩=some (.int .i64 k)∧wr.cell? ⟨b,off + j * 3 + 1,none⟩=some (.int .i64 x)∧wr.cell? ⟨b,off + j * 3 + 2,none⟩=some (.int .i64 y):=by
 have hl:=(List.getElem?_eq_some_iff.1 hj).1
 obtain ⟨b,off,rfl,hB,hc⟩:=h (by rw [ints_length,flatG_length]; omega)
 have g:=fun (t:Nat) (v:Int) (hx:(threeG ⟨k,x,y⟩)[t]? = some v)=>(hb.cell (p:=⟨b,off + (j * 3 + t),none⟩) hB).trans (hc (j * 3 + t) _ (ints_get (flatG_at hj t v hx)))
 exact ⟨b,off,rfl,hB,g 0 _ rfl,g 1 _ rfl,g 2 _ rfl⟩
theorem int_cells {w wr:World} {B:Nat} {A:Option Addr} {L:List Int} (h:Cells w B A (ints L)) (hb:Below B w wr) {j:Nat} {x:Int} (hj:L[j]? = some x) :
  ∃ b off,A=some ⟨b,off,none⟩∧b < B∧wr.cell? ⟨b,off + j,none⟩=some (.int .i64 x):=by
 have hl:=(List.getElem?_eq_some_iff.1 hj).1
 obtain ⟨b,off,rfl,hB,hc⟩:=h (by rw [ints_length]; omega)
 exact ⟨b,off,rfl,hB,(hb.cell (p:=⟨b,off + j,none⟩) hB).trans (hc j _ (ints_get hj))⟩
theorem gates_at {L:List Gt} {j:Nat} {g:Gt} (h:L[j]? = some g):gatesB j (L.drop j)=(gateB g j && gatesB (j + 1) (L.drop (j + 1))):=by
 rw [drop_st h,gatesB]
theorem outs_at {n:Nat} {L:List Int} {j:Nat} {x:Int} (h:L[j]? = some x):outsB n (L.drop j)=(wireB n x && outsB n (L.drop (j + 1))):=by
 rw [drop_st h]
 rfl
theorem circ_g {gs:List Gt} {os:List Int} (h:gatesB 0 gs=false):circB gs os=false:=by unfold circB; rw [h,Bool.false_and,Bool.and_false]
theorem circ_o {gs:List Gt} {os:List Int} (h:outsB gs.length os=false):circB gs os=false:=by unfold circB; rw [h,Bool.and_false,Bool.and_false]
set_option linter.unusedVariables false in
set_option maxRecDepth 100000 in
set_option maxHeartbeats 3200000 in
theorem iCircOk (G O:Option Addr) (cg co:Nat) (gs:List Gt) (os:List Int) (w:World) (hg:Cells w w.heap.size G (ints (flatG gs))) (ho:Cells w w.heap.size O (ints os)) (hn:gs.length≤1000000) (hm:os.length≤1000000) :
  Calls Tryz.prog 105 #[.agg #[.slice G gs.length cg,.slice O os.length co]] w fun e w'=>e=.returned (.bool (circB gs os))∧Below w.heap.size w w':=by
 by_cases h6:6000 < gs.length
 ·have h6':(6000:Int) < (gs.length:Int):=by omega
  have HP:=hid (show circB gs os=false by unfold circB; rw [decide_eq_false (by omega)]; rfl)
  clear hg ho
  go_enter Tryz.func105,Tryz.ntmps105
  go_wp2
  go_ret
  exact ⟨by rw [HP.out]; rfl,by exact belBy⟩
 have h6':¬ (6000:Int) < (gs.length:Int):=by omega
 have HG:=hid hg
 have HO:=hid ho
 clear hg ho
 go_enter Tryz.func105,Tryz.ntmps105
 have b_0:=(Below.refl w.heap.size w)
 have s_0:=b_0.size
 go_upto_region 1 with fail
 refine wp_forget1 (w0:=w) (B:=w.heap.size) (b0:=w.heap.size) (t0:=40) (c0:=#[.slice G gs.length cg,.slice O os.length co]) ?_ ?_ ?_
 (focus exact blkcBy)
 (focus (exact belBy))
 intro w1 x_1 hX1
 have sX1:=hX1.size
 have x_lt:=x_1.lt
 have b_1:=b_0.trans (hX1.mono (by omega))
 clear b_0 hX1
 have cell_x:=x_1.cell
 have froz_x:=x_1.frozen
 have lt_x:=x_1.lt
 have X1:=hid x_1
 have B1:=hid b_1
 clear x_1 b_1 froz_x lt_x
 go_wp2
 clear cell_x
 go_loopw [3,4,14] (fun _ _ i wr=>∃ (j:Nat),j≤gs.length∧i=.int .i64 j∧gatesB 0 gs=gatesB j (gs.drop j)∧Blk wr w.heap.size 40 #[.slice G gs.length cg,.slice O os.length co]∧Below w.heap.size w wr) (fun _ _ i _=>gs.length - (intOf i).toNat)
 case atStart=>exact ⟨0,Nat.zero_le _,rfl,rfl,X1.out,B1.out⟩
 case round =>
  obtain ⟨j,hj,rfl,hsc,hx,hb⟩:=hrel
  have zb:=hb.size
  by_cases hlt:j < gs.length
  ·obtain ⟨⟨k,a,e⟩,hq⟩:∃ s,gs[j]? = some s:=⟨_,List.getElem?_eq_getElem hlt⟩
   obtain ⟨b,off,rfl,hB,d0,d1,d2⟩:=gt_cells HG.out hb hq
   have hs2:=gates_at hq
   have hlt':(j:Int) < (gs.length:Int):=by omega
   have HS:=hid (fun w=>iGateOk k a e j w)
   obtain ⟨v,hv⟩:∃ v,gateB ⟨k,a,e⟩ (j:Int)=v:=⟨_,rfl⟩
   rw [hv] at HS hs2
   have HSC:=hid (hsc.trans hs2)
   clear hq hsc hs2 hv
   have b_30:=hb
   have s_30:=b_30.size
   have x_30:=hx
   clear hx
   have x_lt:=x_30.lt
   have cell_x:=x_30.cell
   have froz_x:=x_30.frozen
   have lt_x:=x_30.lt
   go_upto_region 6 with fail
   refine wp_forget1 (w0:=wr) (B:=wr.heap.size) (b0:=wr.heap.size) (t0:=96) (c0:=#[.int .i64 k,.int .i64 a,.int .i64 e]) ?_ ?_ ?_
   (focus exact blkcBy)
   (focus (exact belBy))
   intro w31 y_31 hX31
   have sX31:=hX31.size
   have y_lt:=y_31.lt
   have b_31:=b_30.trans (hX31.mono (by omega))
   have x_31:=Blk.past hX31 x_30
   clear x_30 b_30 cell_x froz_x lt_x hX31
   have cell_x:=x_31.cell
   have froz_x:=x_31.frozen
   have lt_x:=x_31.lt
   have cell_y:=y_31.cell
   have froz_y:=y_31.frozen
   have lt_y:=y_31.lt
   go_wp2_with fail
   refine calls_forget0 (W:=w31) ?_ ?_
   (focus (exact belBy))
   intro X32 hX32
   have sX32:=hX32.size
   refine (HS.out _).mono ?_
   rintro e w32 ⟨rfl,hb32⟩
   have s32:=hb32.size
   have hT32:=hX32.trans (hb32.mono sX32)
   have b_32:=b_31.trans (hT32.mono (by omega))
   have x_32:=Blk.past hT32 x_31
   have y_32:=Blk.past hT32 y_31
   clear x_31 y_31 b_31 cell_x froz_x lt_x cell_y froz_y lt_y hX32 hT32 hb32
   have cell_x:=x_32.cell
   have froz_x:=x_32.frozen
   have lt_x:=x_32.lt
   have cell_y:=y_32.cell
   have froz_y:=y_32.frozen
   have lt_y:=y_32.lt
   have HB:=hid b_32
   have HX:=hid x_32
   clear b_32 x_32 y_32 d0 d1 d2
   cases v
   ·have HP:=hid (circ_g (os:=os) (HSC.out.trans (Bool.false_and _)))
    go_wp2
    go_ret
    exact ⟨by rw [HP.out]; rfl,HB.out⟩
   ·go_wp2
    go_roundw
    case rel=>exact ⟨j + 1,by omega,by go_num,HSC.out.trans (Bool.true_and _),HX.out,HB.out⟩
    case measure=>simp [intOf]; omega
  ·obtain rfl:j=gs.length:=by omega
   rw [List.drop_length] at hsc
   have HGG:=hid hsc
   have HX:=hid hx
   have HB:=hid hb
   have cell_x:=hx.cell
   have lt_x:=hx.lt
   clear hsc hx hb X1 B1
   go_wp2
   clear cell_x lt_x
   go_loopw [6,27] (fun _ i wx=>∃ (j:Nat),j≤os.length∧i=.int .i64 j∧outsB gs.length os=outsB gs.length (os.drop j)∧Blk wx w.heap.size 40 #[.slice G gs.length cg,.slice O os.length co]∧Below w.heap.size w wx) (fun _ i _=>os.length - (intOf i).toNat)
   case atStart=>exact ⟨0,Nat.zero_le _,rfl,rfl,HX.out,HB.out⟩
   case round =>
    obtain ⟨j,hj,rfl,hsc,hx,hb⟩:=hrel
    have cell_x:=hx.cell
    have lt_x:=hx.lt
    have HX:=hid hx
    by_cases hlt:j < os.length
    ·obtain ⟨x,hq⟩:∃ s,os[j]? = some s:=⟨_,List.getElem?_eq_getElem hlt⟩
     obtain ⟨b,off,rfl,hB,d0⟩:=int_cells HO.out hb hq
     have hs2:=outs_at (n:=gs.length) hq
     have hlt':(j:Int) < (os.length:Int):=by omega
     have HS:=hid (fun w=>iWithin x 0 ((gs.length:Int) - 1) w)
     have hw:IntKind.i64.wrap ((gs.length:Int) - 1)=(gs.length:Int) - 1:=IntWalk.i64_in _ (by omega)
     obtain ⟨v,hv⟩:∃ v,inB x 0 ((gs.length:Int) - 1)=v:=⟨_,rfl⟩
     have hv2:wireB gs.length x=v:=hv
     rw [hv] at HS
     rw [hv2] at hs2
     have HSC:=hid (hsc.trans hs2)
     have HB:=hid hb
     clear hq hsc hs2 hv hv2 hx hb
     cases v
     ·have HP:=hid (circ_o (HSC.out.trans (Bool.false_and _)))
      go_wp2_with (go_at_call 56; refine (HS.out _).mono ?_; rintro e w' ⟨rfl,rfl⟩)
      go_ret
      exact ⟨by rw [HP.out]; rfl,HB.out⟩
     ·go_wp2_with (go_at_call 56; refine (HS.out _).mono ?_; rintro e w' ⟨rfl,rfl⟩)
      go_roundw
      case rel=>exact ⟨j + 1,by omega,by go_num,HSC.out.trans (Bool.true_and _),HX.out,HB.out⟩
      case measure=>simp [intOf]; omega
    ·obtain rfl:j=os.length:=by omega
     rw [List.drop_length] at hsc
     have HP:=hid (show circB gs os=true by unfold circB; rw [HGG.out,hsc,decide_eq_true (by omega)]; rfl)
     have HB:=hid hb
     clear hsc hx hb
     go_wp2
     go_ret
     exact ⟨by rw [HP.out]; rfl,HB.out⟩
set_option linter.unusedVariables false in
set_option maxRecDepth 100000 in
set_option maxHeartbeats 3200000 in
theorem sCircOk (G O:Option Addr) (cg co:Nat) (gs:List Gt) (os:List Int) (w:World) (hg:Cells w w.heap.size G (ints (flatG gs))) (ho:Cells w w.heap.size O (ints os)) (hn:gs.length≤1000000) (hm:os.length≤1000000) :
  Calls Tryz.prog 62 #[.agg #[.slice G gs.length cg,.slice O os.length co]] w fun e w'=>e=.returned (.bool (circB gs os))∧Below w.heap.size w w':=by
 have HG:=hid hg
 have HO:=hid ho
 clear hg ho
 go_enter Tryz.func62,Tryz.ntmps62
 have b_0:=(Below.refl w.heap.size w)
 have s_0:=b_0.size
 go_upto_region 1 with fail
 refine wp_forget1 (w0:=w) (B:=w.heap.size) (b0:=w.heap.size) (t0:=40) (c0:=#[.slice G gs.length cg,.slice O os.length co]) ?_ ?_ ?_
 (focus exact blkcBy)
 (focus (exact belBy))
 intro w1 x_1 hX1
 have sX1:=hX1.size
 have x_lt:=x_1.lt
 have b_1:=b_0.trans (hX1.mono (by omega))
 clear b_0 hX1
 have cell_x:=x_1.cell
 have froz_x:=x_1.frozen
 have lt_x:=x_1.lt
 have X1:=hid x_1
 have B1:=hid b_1
 clear x_1 b_1 froz_x lt_x
 go_wp2
 clear cell_x
 go_loopw [3] (fun i wr=>∃ (j:Nat),j≤gs.length∧i=.int .i64 j∧gatesB 0 gs=gatesB j (gs.drop j)∧Blk wr w.heap.size 40 #[.slice G gs.length cg,.slice O os.length co]∧Below w.heap.size w wr) (fun i _=>gs.length - (intOf i).toNat)
 case atStart=>exact ⟨0,Nat.zero_le _,rfl,rfl,X1.out,B1.out⟩
 case round =>
  obtain ⟨j,hj,rfl,hsc,hx,hb⟩:=hrel
  have zb:=hb.size
  by_cases hlt:j < gs.length
  ·obtain ⟨⟨k,a,e⟩,hq⟩:∃ s,gs[j]? = some s:=⟨_,List.getElem?_eq_getElem hlt⟩
   obtain ⟨b,off,rfl,hB,d0,d1,d2⟩:=gt_cells HG.out hb hq
   have hs2:=gates_at hq
   have hlt':(j:Int) < (gs.length:Int):=by omega
   have HS:=hid (fun w=>sGateOk k a e j w)
   obtain ⟨v,hv⟩:∃ v,gateB ⟨k,a,e⟩ (j:Int)=v:=⟨_,rfl⟩
   rw [hv] at HS hs2
   have HSC:=hid (hsc.trans hs2)
   clear hq hsc hs2 hv
   have b_30:=hb
   have s_30:=b_30.size
   have x_30:=hx
   clear hx
   have x_lt:=x_30.lt
   have cell_x:=x_30.cell
   have froz_x:=x_30.frozen
   have lt_x:=x_30.lt
   go_wp2_with fail
   refine calls_forget0 (W:=wr) ?_ ?_
   (focus (exact belBy))
   intro X31 hX31
   have sX31:=hX31.size
   refine (HS.out _).mono ?_
   rintro e w31 ⟨rfl,hb31⟩
   have s31:=hb31.size
   have hT31:=hX31.trans (hb31.mono sX31)
   have b_31:=b_30.trans (hT31.mono (by omega))
   have x_31:=Blk.past hT31 x_30
   clear x_30 b_30 cell_x froz_x lt_x hX31 hT31 hb31
   have cell_x:=x_31.cell
   have froz_x:=x_31.frozen
   have lt_x:=x_31.lt
   have HB:=hid b_31
   have HX:=hid x_31
   clear b_31 x_31 d0 d1 d2
   cases v
   ·have HP:=hid (circ_g (os:=os) (HSC.out.trans (Bool.false_and _)))
    go_wp2
    go_ret
    exact ⟨by rw [HP.out]; rfl,HB.out⟩
   ·go_wp2
    go_roundw
    case rel=>exact ⟨j + 1,by omega,by go_num,HSC.out.trans (Bool.true_and _),HX.out,HB.out⟩
    case measure=>simp [intOf]; omega
  ·obtain rfl:j=gs.length:=by omega
   rw [List.drop_length] at hsc
   have HGG:=hid hsc
   have HX:=hid hx
   have HB:=hid hb
   have cell_x:=hx.cell
   have lt_x:=hx.lt
   clear hsc hx hb X1 B1
   go_wp2
   clear cell_x lt_x
   go_loopw [4] (fun i wx=>∃ (j:Nat),j≤os.length∧i=.int .i64 j∧outsB gs.length os=outsB gs.length (os.drop j)∧Blk wx w.heap.size 40 #[.slice G gs.length cg,.slice O os.length co]∧Below w.heap.size w wx) (fun i _=>os.length - (intOf i).toNat)
   case atStart=>exact ⟨0,Nat.zero_le _,rfl,rfl,HX.out,HB.out⟩
   case round =>
    obtain ⟨j,hj,rfl,hsc,hx,hb⟩:=hrel
    have cell_x:=hx.cell
    have lt_x:=hx.lt
    have HX:=hid hx
    by_cases hlt:j < os.length
    ·obtain ⟨x,hq⟩:∃ s,os[j]? = some s:=⟨_,List.getElem?_eq_getElem hlt⟩
     obtain ⟨b,off,rfl,hB,d0⟩:=int_cells HO.out hb hq
     have hs2:=outs_at (n:=gs.length) hq
     have hlt':(j:Int) < (os.length:Int):=by omega
     have HS:=hid (fun w=>sWithin x 0 ((gs.length:Int) - 1) w)
     have hw:IntKind.i64.wrap ((gs.length:Int) - 1)=(gs.length:Int) - 1:=IntWalk.i64_in _ (by omega)
     obtain ⟨v,hv⟩:∃ v,inB x 0 ((gs.length:Int) - 1)=v:=⟨_,rfl⟩
     have hv2:wireB gs.length x=v:=hv
     rw [hv] at HS
     rw [hv2] at hs2
     have HSC:=hid (hsc.trans hs2)
     have HB:=hid hb
     clear hq hsc hs2 hv hv2 hx hb
     have zb:=HB.out.size
     have hbz:b < wr.heap.size:=by omega
     have q0:=fun (x:Later wr) (o:Nat)=>(HX.out.below x.below HX.out.lt).cell o
     have q1:=fun (x:Later wr)=>(x.below.cell (p:=⟨b,off + j,none⟩) hbz).trans d0
     go_wp2_with fail
     refine wp_region_later (by kernel_rfl) (by kernel_rfl) ?_
     repeat (go_big_quiet_step ((go_at_call 123; exact Calls.later_same (HS.out _))))
     refine wpQuiet_nil ?_
     rintro _ ⟨⟨w1,hb1⟩,rfl⟩
     try dsimp only
     have HX1:=hid (HX.out.below hb1 HX.out.lt)
     have HB1:=hid (HB.out.trans (hb1.mono zb))
     clear q0 q1 hb1
     cases v
     ·have HP:=hid (circ_o (HSC.out.trans (Bool.false_and _)))
      go_wp2
      go_ret
      exact ⟨by rw [HP.out]; rfl,HB1.out⟩
     ·go_wp2
      go_roundw
      case rel=>exact ⟨j + 1,by omega,by go_num,HSC.out.trans (Bool.true_and _),HX1.out,HB1.out⟩
      case measure=>simp [intOf]; omega
    ·obtain rfl:j=os.length:=by omega
     rw [List.drop_length] at hsc
     have HP:=hid (show circB gs os=decide (gs.length≤6000) by unfold circB; rw [HGG.out,hsc]; simp [gatesB,outsB])
     have HB:=hid hb
     clear hsc hx hb
     by_cases h6:gs.length≤6000
     ·have h6':(gs.length:Int)≤6000:=by omega
      go_wp2
      go_ret
      exact ⟨by rw [HP.out,decide_eq_true h6]; rfl,HB.out⟩
     ·have h6':¬ (gs.length:Int)≤6000:=by omega
      go_wp2
      go_ret
      exact ⟨by rw [HP.out,decide_eq_false h6]; rfl,HB.out⟩
open Go.RowKit
theorem own_ne {w:World} {b1 b2 e1 e2 s1 s2 n1 n2:Nat} {v1 v2:Value} {xs ys:List Value} (h1:w.ownsRow b1 e1 s1 v1 n1 xs) (h2:w.ownsRow b2 e2 s2 v2 n2 ys) (hne:e1≠e2) :
  ∀ q p,v1.ownBlock=some q→v2.ownBlock=some p→q≠p:=by
 intro q p hq hp e
 subst e
 rcases h1.2 with ⟨hv,_⟩ | ⟨g,cap,cur,hv,hg,hh,_⟩
 ·rw [hv] at hq; cases hq
 ·rcases h2.2 with ⟨hv2,_⟩ | ⟨g2,cap2,cur2,hv2,hg2,hh2,_⟩
  ·rw [hv2] at hp; cases hp
  ·rw [hv] at hq
   rw [hv2] at hp
   have e1':g=q:=Option.some.inj hq
   have e2':g2=q:=Option.some.inj hp
   subst e1'
   subst e2'
   rw [hh] at hh2
   injection hh2 with hh2
   injection hh2 with _ h3 _
   exact hne h3
theorem own_off {w:World} {base e size n o t:Nat} {v:Value} {xs:List Value} {cs:Array Value} (h:w.ownsRow base e size v n xs) (k:Blk w o t cs) (hne:e≠t):∀ q,v.ownBlock=some q→base≤q∧q < w.heap.size∧q≠o:=by
 intro q hq
 refine ⟨(h.lt q hq).1,(h.lt q hq).2,?_⟩
 rintro rfl
 rcases h.2 with ⟨hv,_⟩ | ⟨g,cap,cur,hv,_,hh,_⟩
 ·rw [hv] at hq
  cases hq
 ·rw [hv] at hq
  have e1:g=q:=Option.some.inj hq
  subst e1
  unfold Blk at k
  rw [hh] at k
  injection k with k
  injection k with _ k _
  exact hne k
theorem own_setne {w:World} {base e size n:Nat} {v:Value} {xs:List Value} {p:Addr} {u:Value} (h:w.ownsRow base e size v n xs) (hne:∀ q,v.ownBlock=some q→q≠p.block):(w.setCell p u).ownsRow base e size v n xs:=by
 refine ⟨h.1,?_⟩
 rcases h.2 with ⟨hv,hn⟩ | ⟨g,cap,cur,hv,hg,hh,hr⟩
 ·exact Or.inl ⟨hv,hn⟩
 ·refine Or.inr ⟨g,cap,cur,hv,hg,?_,hr⟩
  rw [Below.heap_setCell w p u g (hne g (by rw [hv]; rfl))]
  exact hh
theorem own_ne_obj {w:World} {base e size n o t:Nat} {v:Value} {xs:List Value} {cs:Array Value} (h:w.ownsRow base e size v n xs) (k:Blk w o t cs) (hne:e≠t):∀ q,v.ownBlock=some q→q≠o:=fun q hq=>(own_off h k hne q hq).2.2
abbrev TG:Nat:=96
def Other (T:Nat) (w:World) (i:Nat):Prop:=∀ cs t m,w.heap[i]? = some (.cells cs t m)→t≠T∧t≠TG
structure Stay (T lo:Nat) (w w':World):Prop where
 os:w'.os=w.os
 tape:w'.tape=w.tape
 output:w'.output=w.output
 size:w.heap.size≤w'.heap.size
 block:∀ i,i < w.heap.size→(i < lo∨Other T w i)→w'.heap[i]? = w.heap[i]?
section
variable {T lo:Nat} {w w1 w':World}
theorem Stay.refl (T lo:Nat) (w:World):Stay T lo w w:=⟨rfl,rfl,rfl,Nat.le_refl _,fun _ _ _=>rfl⟩
theorem Stay.trans (h1:Stay T lo w w1) (h2:Stay T lo w1 w'):Stay T lo w w' :=
 ⟨h2.os.trans h1.os,h2.tape.trans h1.tape,h2.output.trans h1.output,Nat.le_trans h1.size h2.size,fun i hi ho=>by
  have e:=h1.block i hi ho
  refine (h2.block i (Nat.lt_of_lt_of_le hi h1.size) ?_).trans e
  rcases ho with ho | ho
  ·exact .inl ho
  ·exact .inr fun cs t m hc=>ho cs t m (e.symm.trans hc)⟩
theorem Stay.below (h:Stay T lo w w') (hl:lo≤w.heap.size):Below lo w w' :=
 ⟨h.os,h.tape,h.output,h.size,fun i hi=>h.block i (by omega) (.inl hi)⟩
theorem Stay.of_below (h:Below w.heap.size w w'):Stay T lo w w':=⟨h.os,h.tape,h.output,h.size,fun i hi _=>h.block i hi⟩
theorem Stay.own (h:Stay T lo w w') {base e size n:Nat} {v:Value} {xs:List Value} (k:w.ownsRow base e size v n xs) (h1:e≠T) (h2:e≠TG):w'.ownsRow base e size v n xs:=by
 refine ⟨k.1,?_⟩
 rcases k.2 with hv | ⟨g,cap,cur,hv,hg,hh,r⟩
 ·exact .inl hv
 ·have hlt:g < w.heap.size:=by
   rcases Nat.lt_or_ge g w.heap.size with h0 | h0
   ·exact h0
   ·rw [Array.getElem?_eq_none h0] at hh; cases hh
  refine .inr ⟨g,cap,cur,hv,hg,(h.block g hlt (.inr fun cs t m hc=>?_)).trans hh,r⟩
  rw [hh] at hc
  injection hc with hc
  injection hc with _ e2 _
  subst e2
  exact ⟨h1,h2⟩
theorem Stay.row (h:Stay T lo w w') {g e size n c:Nat} {xs:List Value} (k:Row w g e size n c xs) (h1:e≠T) (h2:e≠TG):Row w' g e size n c xs:=h.own k h1 h2
theorem Stay.blk (h:Stay T lo w w') {b t:Nat} {cs:Array Value} (k:Blk w b t cs) (h1:t≠T) (h2:t≠TG):Blk w' b t cs :=
 (h.block b k.lt (.inr fun cs' t' m hc=>by
  unfold Blk at k
  rw [k] at hc
  injection hc with hc
  injection hc with _ e2 _
  subst e2
  exact ⟨h1,h2⟩)).trans k
end
def Bld (T:Nat) (w:World) (lo bp:Nat) (gs:List Gt) (O:Value):Prop :=
 ∃ A c,Blk w bp T #[.slice A gs.length c,O]∧lo≤bp∧w.ownsRow lo TG 3 (.slice A gs.length c) gs.length (ints (flatG gs))
def Wd (w:World) (A:Option Addr) (xs:List Int):Prop :=
 ∃ b off cs m,A=some ⟨b,off,none⟩∧w.heap[b]? = some (.cells cs 3 m)∧∀ (i:Nat) (v:Value),(ints xs)[i]? = some v→cs[off + i]? = some v
section
variable {T lo:Nat} {w w':World} {A:Option Addr} {xs:List Int}
theorem Wd.lt {b off:Nat} (h:Wd w (some ⟨b,off,none⟩) xs):b < w.heap.size:=by
 obtain ⟨b',off',cs,m,e,hb,hc⟩:=h
 injection e with e
 injection e with e1 e2
 subst e1 e2
 rcases Nat.lt_or_ge b w.heap.size with h0 | h0
 ·exact h0
 ·rw [Array.getElem?_eq_none h0] at hb; cases hb
theorem Wd.at_ (h:Wd w A xs):∃ b off,A=some ⟨b,off,none⟩:=by
 obtain ⟨b,off,_,_,e,_⟩:=h
 exact ⟨b,off,e⟩
theorem Wd.cell {b off:Nat} (h:Wd w (some ⟨b,off,none⟩) xs) {i:Nat} {x:Int} (hx:xs[i]? = some x):w.cell? ⟨b,off + i,none⟩=some (.int .i64 x):=by
 obtain ⟨b',off',cs,m,e,hb,hc⟩:=h
 injection e with e
 injection e with e1 e2
 subst e1 e2
 have:=hc i _ (ints_get hx)
 simp [World.cell?,hb,this]
theorem Wd.stay (h:Wd w A xs) (hs:Stay T lo w w') (h1:3≠T):Wd w' A xs:=by
 obtain ⟨b,off,cs,m,e,hb,hc⟩:=h
 have hlt:b < w.heap.size:=by
  rcases Nat.lt_or_ge b w.heap.size with h0 | h0
  ·exact h0
  ·rw [Array.getElem?_eq_none h0] at hb; cases hb
 refine ⟨b,off,cs,m,e,(hs.block b hlt (.inr fun cs' t m' hc'=>?_)).trans hb,hc⟩
 rw [hb] at hc'
 injection hc' with hc'
 injection hc' with _ e2 _
 subst e2
 exact ⟨h1,by decide⟩
theorem Wd.below (h:Wd w A xs) (hb:Below w.heap.size w w'):Wd w' A xs:=by
 obtain ⟨b,off,cs,m,e,hh,hc⟩:=h
 have hlt:b < w.heap.size:=by
  rcases Nat.lt_or_ge b w.heap.size with h0 | h0
  ·exact h0
  ·rw [Array.getElem?_eq_none h0] at hh; cases hh
 exact ⟨b,off,cs,m,e,(hb.block b hlt).trans hh,hc⟩
theorem Wd.of_row {g n c:Nat} (h:RowI w g n c xs):Wd w (some ⟨g,0,none⟩) xs:=by
 obtain ⟨h0,cur,h1,h2,h3,h4,h5⟩:=Row.parts h
 refine ⟨g,0,cur,(0,0),rfl,h1,fun i v hv=>?_⟩
 rw [Nat.zero_add]
 rw [←h5,List.getElem?_take] at hv
 split at hv
 ·simpa using hv
 ·cases hv
theorem Wd.drop {b off:Nat} (h:Wd w (some ⟨b,off,none⟩) xs) (k:Nat):Wd w (some ⟨b,off + k,none⟩) (xs.drop k):=by
 obtain ⟨b',off',cs,m,e,hb,hc⟩:=h
 injection e with e
 injection e with e1 e2
 subst e1 e2
 refine ⟨b,off + k,cs,m,rfl,hb,fun i v hv=>?_⟩
 rw [Nat.add_assoc]
 refine hc (k + i) v ?_
 unfold ints at hv ⊢
 rw [List.getElem?_map,List.getElem?_drop] at hv
 rw [List.getElem?_map]
 exact hv
theorem Wd.cells (h:Wd w A xs):Cells w w.heap.size A (ints xs):=fun _=>by
 obtain ⟨b,off,rfl⟩:=h.at_
 refine ⟨b,off,rfl,h.lt,fun i v hv=>?_⟩
 obtain ⟨x,hx,rfl⟩:∃ x,xs[i]? = some x∧Value.int .i64 x=v:=by
  unfold ints at hv
  rw [List.getElem?_map] at hv
  cases hx:xs[i]? with
  | none=>rw [hx] at hv; cases hv
  | some x=>rw [hx] at hv; injection hv with hv; exact ⟨x,rfl,hv⟩
 exact h.cell hx
end
theorem int3_one (a b c:Int):∀ u∈[Value.int .i64 a,.int .i64 b,.int .i64 c],u.oneCell'=true:=by
 intro u hu
 simp at hu
 rcases hu with rfl | rfl | rfl <;> rfl
theorem bld_put {T lo bp:Nat} {w w1:World} {gs:List Gt} {g:Gt} {O:Value} {A A':Option Addr} {c c':Nat} (hT:TG≠T) (hb:Blk w bp T #[.slice A gs.length c,O]) (hl:lo≤bp) (ho:w.ownsRow lo TG 3 (.slice A gs.length c) gs.length (ints (flatG gs)))
  (ho':w1.ownsRow lo TG 3 (.slice A' (gs.length + 1) c') (gs.length + 1) (ints (flatG gs) ++ ints (threeG g))) (hg:w.grownBy w1 (Value.slice A gs.length c).ownBlock) :
  Blk w1 bp T #[.slice A gs.length c,O]∧Bld T (w1.setCell ⟨bp,0,none⟩ (.slice A' (gs.length + 1) c')) lo bp (gs ++ [g]) O∧Stay T lo w (w1.setCell ⟨bp,0,none⟩ (.slice A' (gs.length + 1) c')):=by
 have hb1:=gr_blk hg hb (own_ne_obj ho hb hT)
 have hlen:(gs ++ [g]).length=gs.length + 1:=by simp
 refine ⟨hb1,⟨A',c',?_,hl,?_⟩,⟨hg.os,hg.tape,hg.output,by have:=hg.size; simpa using this,fun i hi hs=>?_⟩⟩
 ·rw [hlen]
  exact hb1.set_ 0 _
 ·rw [hlen,flatG_snoc,ints_app]
  exact own_setne ho' (own_ne_obj ho' hb1 hT)
 ·have hi1:i≠bp:=by
   rcases hs with hs | hs
   ·omega
   ·rintro rfl
    exact (hs _ _ _ hb).1 rfl
  refine (Below.heap_setCell w1 _ _ i hi1).trans (hg.block i hi fun e=>?_)
  rcases hs with hs | hs
  ·have:=(ho.lt i e.symm).1
   omega
  ·rcases ho.2 with ⟨hv,_⟩ | ⟨q,cap,cur,hv,_,hh,_⟩
   ·rw [hv] at e
    cases e
   ·rw [hv] at e
    have e:some i=some q:=e
    injection e with e
    subst e
    exact (hs _ _ _ hh).2 rfl
open Go.RowKit
abbrev TI:Nat:=159
abbrev TS:Nat:=40
set_option linter.unusedVariables false in
theorem iGate {lo bp:Nat} {gs:List Gt} {O:Value} {n:Nat} (k x y:Int) (w:World) (h:Bld TI w lo bp gs O) (hn:gs.length=n) (hs:n≤100000) :
  Calls Tryz.prog 158 #[.pointer (some ⟨bp,0,none⟩),.int .i64 k,.int .i64 x,.int .i64 y] w fun e w'=>e=.returned (.int .i64 (n:Int))∧Bld TI w' lo bp (gs ++ [⟨k,x,y⟩]) O∧Stay TI lo w w':=by
 subst hn
 obtain ⟨A,c,hb,hl,ho⟩:=h
 have cell_b:=hb.cell
 have froz_b:=hb.frozen
 have lt_b:=hb.lt
 have H:=hid (And.intro hb ho)
 clear hb ho
 go_enter Tryz.func158,Tryz.ntmps158
 go_wp2_with (at_builtin; refine wpList_appi rfl _ _ 38 rfl lo TG (.agg #[.int .i64 0,.int .i64 0,.int .i64 0]) 3 24 Tryz.underlying38 infoGt rfl (by decide) _ gs.length _ rfl (H.out.2.alloc _) ⟨w.heap.size,0,none⟩ 1 1 _ rfl rfl (many_new _ [_,_,_] _) (int3_one _ _ _) (by omega) (by decide) (by simp; omega) ?_)
 intro A' c' w1 h1 h2 _
 have h2:=grown_alloc h2
 obtain ⟨hb1,hB,hS⟩:=bld_put (T:=TI) (g:=⟨k,x,y⟩) (by decide) H.out.1 hl H.out.2 h1 h2
 have HR:=hid (And.intro hB hS)
 have cell_b1:=hb1.cell
 have froz_b1:=hb1.frozen
 have lt_b1:=hb1.lt
 have hw:IntKind.i64.wrap ((gs.length + 1:Nat) - 1:Int)=(gs.length:Int):=by rw [IntWalk.i64_in _ (by omega)]; omega
 clear h1 h2 hb1 hB hS cell_b froz_b lt_b H
 go_wp2
 go_ret
 exact ⟨by first | rfl | simp,HR.out.1,HR.out.2⟩
set_option linter.unusedVariables false in
theorem sGate {lo bp:Nat} {gs:List Gt} {O:Value} {n:Nat} (k x y:Int) (w:World) (h:Bld TS w lo bp gs O) (hn:gs.length=n) (hs:n≤100000) :
  Calls Tryz.prog 114 #[.pointer (some ⟨bp,0,none⟩),.int .i64 k,.int .i64 x,.int .i64 y] w fun e w'=>e=.returned (.int .i64 (n:Int))∧Bld TS w' lo bp (gs ++ [⟨k,x,y⟩]) O∧Stay TS lo w w':=by
 subst hn
 obtain ⟨A,c,hb,hl,ho⟩:=h
 have cell_b:=hb.cell
 have froz_b:=hb.frozen
 have lt_b:=hb.lt
 have H:=hid (And.intro hb ho)
 clear hb ho
 go_enter Tryz.func114,Tryz.ntmps114
 go_wp2_with (at_builtin; refine wpList_appi rfl _ _ 38 rfl lo TG (.agg #[.int .i64 0,.int .i64 0,.int .i64 0]) 3 24 Tryz.underlying38 infoGt rfl (by decide) _ gs.length _ rfl (H.out.2.alloc _) ⟨w.heap.size,0,none⟩ 1 1 _ rfl rfl (many_new _ [_,_,_] _) (int3_one _ _ _) (by omega) (by decide) (by simp; omega) ?_)
 intro A' c' w1 h1 h2 _
 have h2:=grown_alloc h2
 obtain ⟨hb1,hB,hS⟩:=bld_put (T:=TS) (g:=⟨k,x,y⟩) (by decide) H.out.1 hl H.out.2 h1 h2
 have HR:=hid (And.intro hB hS)
 have cell_b1:=hb1.cell
 have froz_b1:=hb1.frozen
 have lt_b1:=hb1.lt
 have hw:IntKind.i64.wrap ((gs.length + 1:Nat) - 1:Int)=(gs.length:Int):=by rw [IntWalk.i64_in _ (by omega)]; omega
 clear h1 h2 hb1 hB hS cell_b froz_b lt_b H
 go_wp2
 go_ret
 exact ⟨by first | rfl | simp,HR.out.1,HR.out.2⟩
open Go.RowKit
set_option linter.unusedVariables false in
theorem iFull {lo bp:Nat} {gs:List Gt} {O:Value} {n:Nat} (x y c:Int) (w:World) (h:Bld TI w lo bp gs O) (hn:gs.length=n) (hs:n≤90000) :
  Calls Tryz.prog 188 #[.pointer (some ⟨bp,0,none⟩),.int .i64 x,.int .i64 y,.int .i64 c] w fun e w'=>e=.returned (.tuple #[.int .i64 ((n + 2:Nat):Int),.int .i64 ((n + 4:Nat):Int)])∧Bld TI w' lo bp (fullG gs x y c) O∧Stay TI lo w w':=by
 subst hn
 have H0:=hid h
 clear h
 go_enter Tryz.func188,Tryz.ntmps188
 go_wp2_with fail
 refine (iGate (n:=gs.length + 0) _ _ _ _ H0.out (by simp) (by omega)).mono ?_
 rintro e w1 ⟨rfl,h,t⟩
 have H1:=hid h
 have T1:=hid t
 clear h t
 go_wp2_with fail
 refine (iGate (n:=gs.length + 1) _ _ _ _ H1.out (by simp) (by omega)).mono ?_
 rintro e w2 ⟨rfl,h,t⟩
 have H2:=hid h
 have T2:=hid (T1.out.trans t)
 clear h t
 go_wp2_with fail
 refine (iGate (n:=gs.length + 2) _ _ _ _ H2.out (by simp) (by omega)).mono ?_
 rintro e w3 ⟨rfl,h,t⟩
 have H3:=hid h
 have T3:=hid (T2.out.trans t)
 clear h t
 go_wp2_with fail
 refine (iGate (n:=gs.length + 3) _ _ _ _ H3.out (by simp) (by omega)).mono ?_
 rintro e w4 ⟨rfl,h,t⟩
 have H4:=hid h
 have T4:=hid (T3.out.trans t)
 clear h t
 go_wp2_with fail
 refine (iGate (n:=gs.length + 4) _ _ _ _ H4.out (by simp) (by omega)).mono ?_
 rintro e w5 ⟨rfl,h,t⟩
 have H5:=hid h
 have T5:=hid (T4.out.trans t)
 clear h t
 go_wp2
 go_returns
 refine ⟨rfl,?_,T5.out⟩
 have h:=H5.out
 simp only [List.append_assoc,List.cons_append,List.nil_append] at h
 exact h
set_option linter.unusedVariables false in
theorem sFull {lo bp:Nat} {gs:List Gt} {O:Value} {n:Nat} (x y c:Int) (w:World) (h:Bld TS w lo bp gs O) (hn:gs.length=n) (hs:n≤90000) :
  Calls Tryz.prog 174 #[.pointer (some ⟨bp,0,none⟩),.int .i64 x,.int .i64 y,.int .i64 c] w fun e w'=>e=.returned (.tuple #[.int .i64 ((n + 2:Nat):Int),.int .i64 ((n + 4:Nat):Int)])∧Bld TS w' lo bp (fullG gs x y c) O∧Stay TS lo w w':=by
 subst hn
 have H0:=hid h
 clear h
 go_enter Tryz.func174,Tryz.ntmps174
 go_wp2_with fail
 refine (sGate (n:=gs.length + 0) _ _ _ _ H0.out (by simp) (by omega)).mono ?_
 rintro e w1 ⟨rfl,h,t⟩
 have H1:=hid h
 have T1:=hid t
 clear h t
 go_wp2_with fail
 refine (sGate (n:=gs.length + 1) _ _ _ _ H1.out (by simp) (by omega)).mono ?_
 rintro e w2 ⟨rfl,h,t⟩
 have H2:=hid h
 have T2:=hid (T1.out.trans t)
 clear h t
 go_wp2_with fail
 refine (sGate (n:=gs.length + 2) _ _ _ _ H2.out (by simp) (by omega)).mono ?_
 rintro e w3 ⟨rfl,h,t⟩
 have H3:=hid h
 have T3:=hid (T2.out.trans t)
 clear h t
 go_wp2_with fail
 refine (sGate (n:=gs.length + 3) _ _ _ _ H3.out (by simp) (by omega)).mono ?_
 rintro e w4 ⟨rfl,h,t⟩
 have H4:=hid h
 have T4:=hid (T3.out.trans t)
 clear h t
 go_wp2_with fail
 refine (sGate (n:=gs.length + 4) _ _ _ _ H4.out (by simp) (by omega)).mono ?_
 rintro e w5 ⟨rfl,h,t⟩
 have H5:=hid h
 have T5:=hid (T4.out.trans t)
 clear h t
 go_wp2
 go_returns
 refine ⟨rfl,?_,T5.out⟩
 have h:=H5.out
 simp only [List.append_assoc,List.cons_append,List.nil_append] at h
 exact h
open Go.RowKit
section
variable {T lo:Nat} {w w0 w1 w':World} {gs:List Gt} {O:Value} {bp g:Nat}
theorem Stay.drew (h:Stay T lo w w'):Stay T lo w w'.drew:=⟨h.os,h.tape,h.output,h.size,h.block⟩
theorem Stay.alloc (h:Stay T lo w w') (o:Obj):Stay T lo w (w'.alloc o) :=
 ⟨h.os,h.tape,h.output,by have:=h.size; simp; omega,fun i hi hn=>(Below.heap_alloc w' o i (Nat.lt_of_lt_of_le hi h.size)).trans (h.block i hi hn)⟩
theorem Stay.past (h:Stay T lo w w1) (hb:Below w1.heap.size w1 w'):Stay T lo w w':=h.trans (Stay.of_below hb)
theorem Stay.grown (h:Stay T lo w w1) (hg:w1.grownBy w' (some g)) (hw:w.heap.size≤g):Stay T lo w w' :=
 ⟨hg.os.trans h.os,hg.tape.trans h.tape,hg.output.trans h.output,Nat.le_trans h.size hg.size,fun i hi hn=>(hg.block i (Nat.lt_of_lt_of_le hi h.size) (fun e=>by injection e with e; omega)).trans (h.block i hi hn)⟩
theorem Stay.onto {X:World} (h:Stay T lo w w1) (t:Stay T lo X w') (h1:X.os=w1.os) (h2:X.tape=w1.tape) (h3:X.output=w1.output) (h4:X.heap=w1.heap):Stay T lo w w' :=
 h.trans ⟨t.os.trans h1,t.tape.trans h2,t.output.trans h3,by rw [←h4]; exact t.size,fun i hi hn=>by
  rw [←h4] at hi ⊢
  refine t.block i hi ?_
  unfold Other at hn ⊢
  rw [h4]
  exact hn⟩
theorem Bld.heap {X:World} (h:Bld T w lo bp gs O) (e:X.heap=w.heap):Bld T X lo bp gs O:=by
 unfold Bld Blk World.ownsRow at h ⊢
 rw [e]
 exact h
theorem Bld.drew (h:Bld T w lo bp gs O):Bld T w.drew lo bp gs O:=h
theorem Bld.below (h:Bld T w lo bp gs O) (hb:Below w.heap.size w w'):Bld T w' lo bp gs O:=by
 obtain ⟨A,c,h1,h2,h3⟩:=h
 exact ⟨A,c,Blk.past hb h1,h2,own_below h3 hb⟩
theorem Bld.grown {n c:Nat} {xs:List Int} (h:Bld T w lo bp gs O) (hg:w.grownBy w' (some g)) (hr:RowI w g n c xs) (hT:3≠T):Bld T w' lo bp gs O:=by
 obtain ⟨A,k,h1,h2,h3⟩:=h
 refine ⟨A,k,gr_blk hg h1 fun q hq=>?_,h2,gr_own hg h3 fun q p hq hp=>?_⟩
 ·injection hq with hq
  subst hq
  exact own_ne_obj hr h1 hT _ rfl
 ·injection hq with hq
  subst hq
  exact own_ne hr h3 (by decide) _ _ rfl hp
theorem Bld.len (h:Bld T w lo bp gs O):bp < w.heap.size∧lo≤bp:=by
 obtain ⟨A,k,h1,h2,_⟩:=h
 exact ⟨h1.lt,h2⟩
theorem Wd.heap {X:World} {A:Option Addr} {xs:List Int} (h:Wd w A xs) (e:X.heap=w.heap):Wd X A xs:=by
 unfold Wd at h ⊢
 rw [e]
 exact h
theorem Wd.onto {X:World} {A:Option Addr} {xs:List Int} (h:Wd w A xs) (t:Stay T lo X w') (e:X.heap=w.heap) (h1:3≠T):Wd w' A xs:=(h.heap e).stay t h1
theorem Row.onto {X:World} {e s n c:Nat} {xs:List Value} (h:Row w g e s n c xs) (t:Stay T lo X w') (he:X.heap=w.heap) (h1:e≠T) (h2:e≠TG):Row w' g e s n c xs:=by
 have h':Row X g e s n c xs:=by
  unfold Row World.ownsRow at h ⊢
  rw [he]
  exact h
 exact t.row h' h1 h2
theorem Wd.grown {xs:List Int} {b off:Nat} (h:Wd w (some ⟨b,off,none⟩) xs) (hg:w.grownBy w' (some g)) (hne:b≠g):Wd w' (some ⟨b,off,none⟩) xs:=by
 have hlt:=h.lt
 obtain ⟨b',off',cs,m,e,hh,hc⟩:=h
 injection e with e
 injection e with e1 e2
 subst e1 e2
 exact ⟨b,off,cs,m,rfl,(hg.block b hlt (fun e=>by injection e with e; omega)).trans hh,hc⟩
end
set_option linter.unusedVariables false in
theorem iIntsAt {b off:Nat} {xs:List Int} {n:Nat} (c:Nat) (w:World) (h:∀ j u,(ints xs)[j]? = some u→w.cell? ⟨b,off + j,none⟩=some u) (hb:b < w.heap.size) (hl:xs.length=n) (hn:n≤100000) :
  Calls Tryz.prog 108 #[.slice (some ⟨b,off,none⟩) n c] w fun e w'=>∃ g k,e=.returned (.slice (some ⟨g,0,none⟩) n k)∧w.heap.size≤g∧RowI w' g n k xs∧Below w.heap.size w w':=by
 have H:=hid h
 clear h
 go_enter Tryz.func108,Tryz.ntmps108
 go_wp2_with (at_builtin; refine app_int (L:=[]) rfl _ _ rfl rfl (Row.new #[] (Nat.zero_le _) rfl rfl) xs rfl hl (fun j u hu=>(cell_alloc (H.out j u hu) hb)) (by omega) ?_)
 intro g' c' w' h1 h2 h3
 have h2:=grown_alloc h2
 have hB:=below_apps (Below.refl w.heap.size w) h2 (Nat.le_refl _) (Nat.le_refl _)
 have HR:=hid (And.intro h1 hB)
 have hg:w.heap.size≤g':=by (try simp at h3); omega
 clear h1 h2 h3 hB
 go_wp2
 go_returns
 exact ⟨g',c',rfl,hg,HR.out.1,HR.out.2⟩
open Go.RowKit
theorem bld_cast {T lo bp:Nat} {w:World} {gs gs':List Gt} {O:Value} (h:Bld T w lo bp gs O) (e:gs=gs'):Bld T w lo bp gs' O:=e ▸ h
theorem row_eq {w:World} {g n c:Nat} {xs ys:List Int} (h:RowI w g n c xs) (e:xs=ys):RowI w g n c ys:=e ▸ h
theorem ints_inv {xs:List Int} {j:Nat} {u:Value} (h:(ints xs)[j]? = some u):∃ x,xs[j]? = some x∧.int .i64 x=u:=by
 unfold ints at h
 rw [List.getElem?_map] at h
 cases hx:xs[j]? with
 | none=>rw [hx] at h; cases h
 | some x=>rw [hx] at h; injection h with h; exact ⟨x,rfl,h⟩
set_option linter.unusedVariables false in
set_option maxRecDepth 100000 in
set_option maxHeartbeats 3200000 in
theorem iSum {lo bp:Nat} {gs:List Gt} {O:Value} {n:Nat} {bx ox cx bY oy cy:Nat} {xs ys:List Int} (first:Int) (f:Nat) (w:World) (h:Bld TI w lo bp gs O) (hn:gs.length=n) (hs:n≤50000) (hx:Wd w (some ⟨bx,ox,none⟩) xs) (hy:Wd w (some ⟨bY,oy,none⟩) ys) (hxl:xs.length=4) (hyl:ys.length=4) (hf:f≤3) (hcx:4≤cx) :
  Calls Tryz.prog 186 #[.pointer (some ⟨bp,0,none⟩),.slice (some ⟨bx,ox,none⟩) 4 cx,.slice (some ⟨bY,oy,none⟩) 4 cy,.int .i64 first,.int .i64 (f:Int)] w fun e w'=>∃ g k,e=.returned (.slice (some ⟨g,0,none⟩) 4 k)∧w.heap.size≤g∧RowI w' g 4 k (xs.take f ++ sumW n (3 - f))∧Bld TI w' lo bp (sumG gs (xs.drop f) (ys.drop f) first (3 - f)) O∧Stay TI lo w w':=by
 subst hn
 have hbx:=hx.lt
 have hby:=hy.lt
 have hbp:=h.len
 obtain ⟨az,hza⟩:∃ a,xs.drop f=a:=⟨_,rfl⟩
 obtain ⟨bs,hzb⟩:∃ a,ys.drop f=a:=⟨_,rfl⟩
 obtain ⟨M,hM⟩:∃ M,3 - f=M:=⟨_,rfl⟩
 obtain ⟨pre,hpre⟩:∃ a,xs.take f=a:=⟨_,rfl⟩
 have hal:∀ m,m≤M→xs[f + m]? = some (az.getD m 0)∧ys[f + m]? = some (bs.getD m 0):=fun m hm=>by
  rw [←hza,←hzb,List.getD_eq_getElem?_getD,List.getD_eq_getElem?_getD,List.getElem?_drop,List.getElem?_drop,List.getElem?_eq_getElem (show f + m < xs.length by omega),List.getElem?_eq_getElem (show f + m < ys.length by omega)]
  exact ⟨rfl,rfl⟩
 have hpl:pre.length=f:=by rw [←hpre,List.length_take]; omega
 have HPC:=hid (show ∀ j u,(ints pre)[j]? = some u→w.cell? ⟨bx,ox + j,none⟩=some u from fun j u hu=>by
  obtain ⟨x,hx1,rfl⟩:=ints_inv hu
  rw [←hpre,List.getElem?_take] at hx1
  split at hx1
  ·exact hx.cell hx1
  ·cases hx1)
 rw [hza,hzb,hM,hpre]
 have HAL:=hid hal
 have H0:=hid (And.intro h (And.intro hx hy))
 clear h hx hy hal
 go_enter Tryz.func186,Tryz.ntmps186
 have hfc:(f:Int)≤(cx:Int):=by omega
 go_wp2_with fail
 refine (iIntsAt _ _ HPC.out hbx hpl (by omega)).mono ?_
 rintro e w1 ⟨go,ko,rfl,hgo,ho,hb⟩
 have z1:=hb.size
 have H1:=hid (And.intro (H0.out.1.below hb) (And.intro (H0.out.2.1.below hb) (And.intro (H0.out.2.2.below hb) (And.intro ho (Stay.of_below (T:=TI) (lo:=lo) hb)))))
 clear ho hb H0 HPC
 go_wp2_with fail
 refine (iGate (n:=gs.length) _ _ _ _ H1.out.1 rfl (by omega)).mono ?_
 rintro e w2 ⟨rfl,h,t⟩
 have z2:=t.size
 have H2:=hid (And.intro h (And.intro (H1.out.2.1.stay t (by decide)) (And.intro (H1.out.2.2.1.stay t (by decide)) (And.intro (t.row H1.out.2.2.2.1 (by decide) (by decide)) (H1.out.2.2.2.2.trans t)))))
 clear h t H1
 go_wp2_with fail
 go_loopw [11,12,13,14,15] (fun o c i _ _ wr=>∃ (m q g k:Nat),m≤M∧q=f + m∧i=.int .i64 (q:Int)∧(∃ C:Int,c=.int .i64 C∧C=((gs.length + 5 * m:Nat):Int))∧o=.slice (some ⟨g,0,none⟩) q k∧w.heap.size≤g∧Bld TI wr lo bp (sumTo gs az bs first m) O∧Wd wr (some ⟨bx,ox,none⟩) xs∧Wd wr (some ⟨bY,oy,none⟩) ys∧RowI wr g q k (pre ++ sumWs gs.length m)∧Stay TI lo w wr) (fun _ _ i _ _ _=>3 - (intOf i).toNat)
 case atStart=>exact ⟨0,f,go,ko,Nat.zero_le _,rfl,rfl,⟨_,rfl,rfl⟩,rfl,hgo,H2.out.1,H2.out.2.1,H2.out.2.2.1,by show RowI _ _ _ _ (pre ++ []); rw [List.append_nil]; exact H2.out.2.2.2.1,H2.out.2.2.2.2⟩
 case round =>
  clear H2
  obtain ⟨m,q,g,k,hm,hq,rfl,⟨C,rfl,hC⟩,rfl,hg,hB,hX,hY,hR,hS⟩:=hrel
  have HC:=hid hC
  have zr:=hS.size
  obtain ⟨e1,e2⟩:=HAL.out m hm
  rw [←hq] at e1 e2
  have HQ:=hid hq
  clear hq
  obtain ⟨xa,hxa⟩:∃ x,az.getD m 0=x:=⟨_,rfl⟩
  obtain ⟨ya,hya⟩:∃ x,bs.getD m 0=x:=⟨_,rfl⟩
  rw [hxa] at e1
  rw [hya] at e2
  have HXY:=hid (And.intro hxa hya)
  have d1:=hX.cell e1
  have d2:=hY.cell e2
  have lx:bx < wr.heap.size:=by omega
  have ly:bY < wr.heap.size:=by omega
  obtain ⟨N1,hN1⟩:∃ N,gs.length + 5 * m + 1=N:=⟨_,rfl⟩
  have hlen:=sumTo_length gs az bs first m
  rw [hN1] at hlen
  have hnb:N1≤90000:=by omega
  have hB0:=hB
  have hX0:=hX
  have hY0:=hY
  have hti:3≠TI:=by decide
  have H:=hid (And.intro hB (And.intro hX (And.intro hY (And.intro hR hS))))
  clear hB hX hY hR hS hxa hya hC
  by_cases hlt:m < M
  ·have hlt':(q:Int) < 3:=by have:=HQ.out; omega
   have hi4:(q:Int) < 4:=by have:=HQ.out; omega
   have hi0:(0:Int)≤(q:Int):=by omega
   go_upto_region 6 with fail
   go_region_held3 (fun w'=>w'.cell? ⟨bx,ox + q,none⟩=some (.int .i64 xa)∧w'.cell? ⟨bY,oy + q,none⟩=some (.int .i64 ya)) (first | exact ⟨d1,d2⟩ | exact ⟨d1',d2'⟩) ((go_at_call 188; refine Calls.mono (iFull (n:=N1) _ _ _ _ (Bld.heap hB0 rfl) hlen hnb) ?_; rintro e w3 ⟨rfl,h,t⟩; have d1':=(Wd.onto hX0 t rfl hti).cell e1; have d2':=(Wd.onto hY0 t rfl hti).cell e2))
   all_goals
    have z3:=t.size
    have hS3:=H.out.2.2.2.2.onto t rfl rfl rfl rfl
    have zs:=hS3.size
    have HR3:=hid (Row.onto H.out.2.2.2.1 t rfl (by decide) (by decide))
    have H3:=hid (And.intro h (And.intro (Wd.onto H.out.2.1 t rfl (by decide)) (And.intro (Wd.onto H.out.2.2.1 t rfl (by decide)) hS3)))
    clear h t hS3 H d1 d2 hB0 hX0 hY0 e1 e2 d1' d2'
    go_wp2_with (at_builtin; refine app_int rfl _ _ rfl rfl (HR3.out.alloc _) [((N1 + 2:Nat):Int)] rfl rfl (top_cells _ [_] _) (by omega) ?_)
    intro g' k' w4 h1 h2 h3
    have h2:=grown_alloc h2
    have hg':w.heap.size≤g':=by (try simp at h3); omega
    have hne1:bx≠g:=by omega
    have he3:((N1 + 2:Nat):Int)=((gs.length + 5 * m + 3:Nat):Int):=by omega
    have hne2:bY≠g:=by omega
    have H4:=hid (And.intro (H3.out.1.grown h2 HR3.out (by decide)) (And.intro (H3.out.2.1.grown h2 hne1) (And.intro (H3.out.2.2.1.grown h2 hne2) (And.intro (row_eq (ys:=pre ++ sumWs gs.length (m + 1)) h1 (by rw [sumWs,←he3]; first | rfl | simp)) (H3.out.2.2.2.grown h2 hg)))))
    clear h1 h2 h3 H3 HR3
    go_wp2
    go_roundw
    case rel =>
     refine ⟨m + 1,q + 1,g',k',by omega,by have:=HQ.out; omega,by go_num,⟨_,rfl,by omega⟩,rfl,hg',bld_cast H4.out.1 (by rw [sumTo,HXY.out.1,HXY.out.2,HC.out]),H4.out.2.1,H4.out.2.2.1,?_,H4.out.2.2.2.2⟩
     exact H4.out.2.2.2.1
    case measure=>have:=HQ.out; simp [intOf]; omega
  ·obtain rfl:m=M:=by omega
   have h3:q=3:=by have:=HQ.out; omega
   have hlt':¬ (q:Int) < 3:=by omega
   subst h3
   go_upto_region 9 with fail
   go_still_tail 7,(by kernel_rfl)
   go_wp2_with fail
   refine Calls.mono (iGate (n:=N1) _ _ _ _ (Bld.heap hB0 rfl) hlen (by omega)) ?_
   rintro e w3 ⟨rfl,h,t⟩
   have hS3:=H.out.2.2.2.2.onto t rfl rfl rfl rfl
   have H3:=hid (And.intro h (And.intro (Row.onto H.out.2.2.2.1 t rfl (by decide) (by decide)) hS3))
   clear h t hS3 H d1 d2 hB0 hX0 hY0 e1 e2
   go_wp2_with fail
   refine (iGate (n:=N1 + 1) _ _ _ _ H3.out.1 (by rw [List.length_append,hlen]; rfl) (by omega)).mono ?_
   rintro e w5 ⟨rfl,h,t⟩
   have hS5:=H3.out.2.2.trans t
   have zs:=hS5.size
   have HR5:=hid (t.row H3.out.2.1 (by decide) (by decide))
   have H5:=hid (And.intro h hS5)
   clear h t hS5 H3
   go_wp2_with (at_builtin; refine app_int rfl _ _ rfl rfl (HR5.out.alloc _) [((N1 + 1:Nat):Int)] rfl rfl (top_cells _ [_] _) (by omega) ?_)
   intro g' k' w6 h1 h2 h3
   have h2:=grown_alloc h2
   have hg':w.heap.size≤g':=by (try simp at h3); omega
   have he3:((N1 + 1:Nat):Int)=((gs.length + 5 * m + 2:Nat):Int):=by omega
   have H6:=hid (And.intro (H5.out.1.grown h2 HR5.out (by decide)) (And.intro (row_eq (ys:=pre ++ sumW gs.length m) h1 (by rw [sumW,←he3]; first | rfl | simp)) (H5.out.2.grown h2 hg)))
   clear h1 h2 h3 H5 HR5
   go_wp2
   go_returns
   refine ⟨g',k',rfl,hg',?_,?_,H6.out.2.2⟩
   ·exact H6.out.2.1
   ·exact bld_cast H6.out.1 (by unfold sumG; rw [HXY.out.1,HXY.out.2,HC.out]; simp; omega)
set_option linter.unusedVariables false in
set_option maxRecDepth 100000 in
set_option maxHeartbeats 3200000 in
theorem sSum {lo bp:Nat} {gs:List Gt} {O:Value} {n:Nat} {bx ox cx bY oy cy:Nat} {xs ys:List Int} (first:Int) (M:Nat) (w:World) (h:Bld TS w lo bp gs O) (hn:gs.length=n) (hs:n≤50000) (hx:Wd w (some ⟨bx,ox,none⟩) xs) (hy:Wd w (some ⟨bY,oy,none⟩) ys) (hxl:xs.length=M + 1) (hyl:ys.length=M + 1) (hM:M≤100) :
  Calls Tryz.prog 115 #[.pointer (some ⟨bp,0,none⟩),.slice (some ⟨bx,ox,none⟩) (M + 1) cx,.slice (some ⟨bY,oy,none⟩) (M + 1) cy,.int .i64 first] w fun e w'=>∃ g k,e=.returned (.slice (some ⟨g,0,none⟩) (M + 1) k)∧w.heap.size≤g∧RowI w' g (M + 1) k (sumW n M)∧Bld TS w' lo bp (sumG gs xs ys first M) O∧Stay TS lo w w':=by
 subst hn
 have hbx:=hx.lt
 have hby:=hy.lt
 have hbp:=h.len
 have hal:∀ m,m≤M→xs[m]? = some (xs.getD m 0)∧ys[m]? = some (ys.getD m 0):=fun m hm=>by
  rw [List.getD_eq_getElem?_getD,List.getD_eq_getElem?_getD,List.getElem?_eq_getElem (show m < xs.length by omega),List.getElem?_eq_getElem (show m < ys.length by omega)]
  exact ⟨rfl,rfl⟩
 have HAL:=hid hal
 have H0:=hid (And.intro h (And.intro hx hy))
 clear h hx hy hal
 go_enter Tryz.func115,Tryz.ntmps115
 go_upto_region 2 with fail
 obtain ⟨w1,hw1⟩:∃ w1,w1=w.alloc (.cells #[] 3):=⟨_,rfl⟩
 have hb:Below w.heap.size w w1:=by rw [hw1]; exact (Below.refl _ _).alloc (Nat.le_refl _) _
 have ho:RowI w1 w.heap.size 0 0 []:=by rw [hw1]; exact Row.new #[] (Nat.zero_le _) rfl rfl
 rw [←hw1]
 have z1:=hb.size
 have H1:=hid (And.intro (H0.out.1.below hb) (And.intro (H0.out.2.1.below hb) (And.intro (H0.out.2.2.below hb) (And.intro ho (Stay.of_below (T:=TS) (lo:=lo) hb)))))
 clear ho hb H0 hw1
 go_wp2_with fail
 refine (sGate (n:=gs.length) _ _ _ _ H1.out.1 rfl (by omega)).mono ?_
 rintro e w2 ⟨rfl,h,t⟩
 have z2:=t.size
 have H2:=hid (And.intro h (And.intro (H1.out.2.1.stay t (by decide)) (And.intro (H1.out.2.2.1.stay t (by decide)) (And.intro (t.row H1.out.2.2.2.1 (by decide) (by decide)) (H1.out.2.2.2.2.trans t)))))
 clear h t H1
 go_wp2_with fail
 go_loopw [9,10,12,13,14] (fun o c i _ _ wr=>∃ (m g k:Nat),m≤M∧i=.int .i64 (m:Int)∧(∃ C:Int,c=.int .i64 C∧C=((gs.length + 5 * m:Nat):Int))∧o=.slice (some ⟨g,0,none⟩) m k∧w.heap.size≤g∧Bld TS wr lo bp (sumTo gs xs ys first m) O∧Wd wr (some ⟨bx,ox,none⟩) xs∧Wd wr (some ⟨bY,oy,none⟩) ys∧RowI wr g (m) k (sumWs gs.length m)∧Stay TS lo w wr) (fun _ _ i _ _ _=>M - (intOf i).toNat)
 case atStart=>exact ⟨0,w.heap.size,0,Nat.zero_le _,rfl,⟨_,rfl,rfl⟩,rfl,Nat.le_refl _,H2.out.1,H2.out.2.1,H2.out.2.2.1,H2.out.2.2.2.1,H2.out.2.2.2.2⟩
 case round =>
  clear H2
  obtain ⟨m,g,k,hm,rfl,⟨C,rfl,hC⟩,rfl,hg,hB,hX,hY,hR,hS⟩:=hrel
  have HC:=hid hC
  have zr:=hS.size
  obtain ⟨e1,e2⟩:=HAL.out m hm
  obtain ⟨xa,hxa⟩:∃ x,xs.getD m 0=x:=⟨_,rfl⟩
  obtain ⟨ya,hya⟩:∃ x,ys.getD m 0=x:=⟨_,rfl⟩
  rw [hxa] at e1
  rw [hya] at e2
  have HXY:=hid (And.intro hxa hya)
  have d1:=hX.cell e1
  have d2:=hY.cell e2
  have lx:bx < wr.heap.size:=by omega
  have ly:bY < wr.heap.size:=by omega
  obtain ⟨N1,hN1⟩:∃ N,gs.length + 5 * m + 1=N:=⟨_,rfl⟩
  have hlen:=sumTo_length gs xs ys first m
  rw [hN1] at hlen
  have hnb:N1≤90000:=by omega
  have hB0:=hB
  have hX0:=hX
  have hY0:=hY
  have hti:3≠TS:=by decide
  have H:=hid (And.intro hB (And.intro hX (And.intro hY (And.intro hR hS))))
  clear hB hX hY hR hS hxa hya hC
  by_cases hlt:m < M
  ·have hlt':(m:Int) < (M:Int):=by omega
   have hlt2:(m:Int) < (M:Int) + 1:=by omega
   go_upto_region 7 with fail
   go_region_held3 (fun w'=>w'.cell? ⟨bx,ox + m,none⟩=some (.int .i64 xa)∧w'.cell? ⟨bY,oy + m,none⟩=some (.int .i64 ya)) (first | exact ⟨d1,d2⟩ | exact ⟨d1',d2'⟩) ((go_at_call 174; refine Calls.mono (sFull (n:=N1) _ _ _ _ (Bld.heap hB0 rfl) hlen hnb) ?_; rintro e w3 ⟨rfl,h,t⟩; have d1':=(Wd.onto hX0 t rfl hti).cell e1; have d2':=(Wd.onto hY0 t rfl hti).cell e2))
   all_goals
    have z3:=t.size
    have hS3:=H.out.2.2.2.2.onto t rfl rfl rfl rfl
    have zs:=hS3.size
    have HR3:=hid (Row.onto H.out.2.2.2.1 t rfl (by decide) (by decide))
    have H3:=hid (And.intro h (And.intro (Wd.onto H.out.2.1 t rfl (by decide)) (And.intro (Wd.onto H.out.2.2.1 t rfl (by decide)) hS3)))
    clear h t hS3 H d1 d2 hB0 hX0 hY0 e1 e2 d1' d2'
    go_wp2_with (at_builtin; refine app_int rfl _ _ rfl rfl (HR3.out.alloc _) [((N1 + 2:Nat):Int)] rfl rfl (top_cells _ [_] _) (by omega) ?_)
    intro g' k' w4 h1 h2 h3
    have h2:=grown_alloc h2
    have hg':w.heap.size≤g':=by (try simp at h3); omega
    have hne1:bx≠g:=by omega
    have he3:((N1 + 2:Nat):Int)=((gs.length + 5 * m + 3:Nat):Int):=by omega
    have hne2:bY≠g:=by omega
    have H4:=hid (And.intro (H3.out.1.grown h2 HR3.out (by decide)) (And.intro (H3.out.2.1.grown h2 hne1) (And.intro (H3.out.2.2.1.grown h2 hne2) (And.intro (row_eq (ys:=sumWs gs.length (m + 1)) h1 (by rw [sumWs,←he3]; first | rfl | simp)) (H3.out.2.2.2.grown h2 hg)))))
    clear h1 h2 h3 H3 HR3
    go_wp2
    go_roundw
    case rel =>
     exact ⟨m + 1,g',k',by omega,by go_num,⟨_,rfl,by omega⟩,rfl,hg',bld_cast H4.out.1 (by rw [sumTo,HXY.out.1,HXY.out.2,HC.out]),H4.out.2.1,H4.out.2.2.1,H4.out.2.2.2.1,H4.out.2.2.2.2⟩
    case measure=>simp [intOf]; omega
  ·obtain rfl:m=M:=by omega
   have hlt':¬ (m:Int) < (m:Int):=by omega
   have hlt2:(m:Int) < (m:Int) + 1:=by omega
   go_upto_region 10 with fail
   go_still_tail 9,(by kernel_rfl)
   go_wp2_with fail
   refine Calls.mono (sGate (n:=N1) _ _ _ _ (Bld.heap hB0 rfl) hlen (by omega)) ?_
   rintro e w3 ⟨rfl,h,t⟩
   have hS3:=H.out.2.2.2.2.onto t rfl rfl rfl rfl
   have H3:=hid (And.intro h (And.intro (Row.onto H.out.2.2.2.1 t rfl (by decide) (by decide)) hS3))
   clear h t hS3 H d1 d2 hB0 hX0 hY0 e1 e2
   go_wp2_with fail
   refine (sGate (n:=N1 + 1) _ _ _ _ H3.out.1 (by rw [List.length_append,hlen]; rfl) (by omega)).mono ?_
   rintro e w5 ⟨rfl,h,t⟩
   have hS5:=H3.out.2.2.trans t
   have zs:=hS5.size
   have HR5:=hid (t.row H3.out.2.1 (by decide) (by decide))
   have H5:=hid (And.intro h hS5)
   clear h t hS5 H3
   go_wp2_with (at_builtin; refine app_int rfl _ _ rfl rfl (HR5.out.alloc _) [((N1 + 1:Nat):Int)] rfl rfl (top_cells _ [_] _) (by omega) ?_)
   intro g' k' w6 h1 h2 h3
   have h2:=grown_alloc h2
   have hg':w.heap.size≤g':=by (try simp at h3); omega
   have he3:((N1 + 1:Nat):Int)=((gs.length + 5 * m + 2:Nat):Int):=by omega
   have H6:=hid (And.intro (H5.out.1.grown h2 HR5.out (by decide)) (And.intro (row_eq (ys:=sumW gs.length m) h1 (by rw [sumW,←he3]; first | rfl | simp)) (H5.out.2.grown h2 hg)))
   clear h1 h2 h3 H5 HR5
   go_wp2
   go_returns
   refine ⟨g',k',rfl,hg',H6.out.2.1,?_,H6.out.2.2⟩
   exact bld_cast H6.out.1 (by unfold sumG; rw [HXY.out.1,HXY.out.2,HC.out]; simp; omega)
open Go.RowKit
inductive GSpec where
 | det
 | con (c:Value)
 | any (F:Value→World→Prop)
def Facts:=Nat→World→Prop
def Facts.none:Facts:=fun _ _=>True
def Facts.upd (fs:Facts) (k:Nat) (f:World→Prop):Facts:=fun j=>if j=k then f else fs j
theorem Facts.upd_comm (fs:Facts) {i j:Nat} (h:i≠j) (f g:World→Prop):(fs.upd i f).upd j g=(fs.upd j g).upd i f:=by
 funext q
 unfold Facts.upd
 by_cases h1:q=j
 ·by_cases h2:q=i
  ·omega
  ·simp [h1,Ne.symm h]
 ·by_cases h2:q=i
  ·simp [h2,h]
  ·simp [h1,h2]
theorem Facts.upd_ne (fs:Facts) {i j:Nat} (h:i≠j) (f:World→Prop):fs.upd i f j=fs j:=by
 unfold Facts.upd
 simp [Ne.symm h]
theorem Facts.upd_self (fs:Facts) (i:Nat) (f:World→Prop):fs.upd i f i=f:=by
 unfold Facts.upd
 simp
def waits (ops:Array Oper) (j i:Nat):Bool:=Region.waitsFor .any ops j i
def detUpon (w:World) (v:Value):Result Next→Prop
 | .ok (.value u) w'=>w'=w∧u=v
 | .ok .skip w'=>w'=w∧v=undef
 | _=>False
def growUpon (P:Program) (R:World→World→Prop) (F:Value→World→Prop) (w:World):Result Next→Prop
 | .ok (.value u) w'=>R w w'∧F u w'
 | .ok .skip w'=>R w w'∧F undef w'
 | .ok (.enter f args) w'=>Calls P f args w' (fun e w''=>∃ v,e=.returned v∧R w w''∧F v w'')
 | _=>False
def depsHold (ops:Array Oper) (k:Nat) (fs:Facts) (w:World):Prop:=∀ j,waits ops k j=true→fs j w
section
variable (P:Program) (ops:Array Oper) (C:World→Prop) (R:World→World→Prop) (spec:Nat→GSpec)
def gStep (fs:Facts) (k:Nat) (o:Oper) (K:Facts→Act→Prop) (a:Act):Prop :=
 if Region.wanted o (yielded ops a.tmps)=true then
  match spec k with
  | .det=>∃ c,(∀ w,C w→detUpon w c ((execOp a.eval o).run P w))∧K fs (a.put o.dst c)
  | .con c=>(∀ w,C w→depsHold ops k fs w→growUpon P R (fun v _=>v=c) w ((execOp a.eval o).run P w))∧K fs (a.put o.dst c)
  | .any F=>(∀ w,C w→depsHold ops k fs w→growUpon P R F w ((execOp a.eval o).run P w))∧∀ v,K (fs.upd k (F v)) (a.put o.dst v)
 else K fs (a.put o.dst undef)
def gOut (fs:Facts) (k:Nat) (o:Oper) (K:Facts→Act→Prop) (a:Act) (w:World):Prop :=
 if Region.wanted o (yielded ops a.tmps)=true then
  match spec k with
  | .det=>∃ c,detUpon w c ((execOp a.eval o).run P w)∧K fs (a.put o.dst c)
  | .con c=>growUpon P R (fun v _=>v=c) w ((execOp a.eval o).run P w)∧K fs (a.put o.dst c)
  | .any F=>growUpon P R F w ((execOp a.eval o).run P w)∧∀ v,K (fs.upd k (F v)) (a.put o.dst v)
 else K fs (a.put o.dst undef)
def gWalk (E:Facts→Act→Prop):List Nat→Facts→Act→Prop
 | [],fs,a=>E fs a
 | k :: is,fs,a=>match ops[k]? with
  | none=>gWalk E is fs a
  | some o=>gStep P ops C R spec fs k o (fun fs' a'=>gWalk E is fs' a') a
def gList (E:Facts→Act→Prop):Nat→List Oper→Facts→Act→Prop
 | _,[],fs,a=>E fs a
 | k,o :: l,fs,a=>gStep P ops C R spec fs k o (fun fs' a'=>gList E (k + 1) l fs' a') a
end
section
variable {P:Program} {ops:Array Oper} {C:World→Prop} {R:World→World→Prop} {spec:Nat→GSpec}
theorem detUpon_same {w:World} {v u:Value} {r:Result Next} (h:detUpon w v r) (h':detUpon w u r):v=u:=by
 cases r with
 | ok n w' =>
  cases n <;> simp only [detUpon] at h h'
  ·exact h.2.symm.trans h'.2
  ·exact h.2.trans h'.2.symm
 | halt x w'=>simp only [detUpon] at h
theorem gOut_of_step {fs:Facts} {k:Nat} {o:Oper} {K:Facts→Act→Prop} {a:Act} {w:World} (hC:C w) (hd:depsHold ops k fs w) (h:gStep P ops C R spec fs k o K a):gOut P ops R spec fs k o K a w:=by
 unfold gStep at h
 unfold gOut
 split
 ·rename_i hw
  rw [if_pos hw] at h
  split
  ·rename_i hs
   rw [hs] at h
   obtain ⟨c,h1,h2⟩:=h
   exact ⟨c,h1 w hC,h2⟩
  ·rename_i c hs
   rw [hs] at h
   exact ⟨h.1 w hC hd,h.2⟩
  ·rename_i F hs
   rw [hs] at h
   exact ⟨h.1 w hC hd,h.2⟩
 ·rename_i hw
  rw [if_neg hw] at h
  exact h
theorem gPull {E:Facts→Act→Prop} (hsel:Region.noSelect ops=true) {j:Nat} {oj:Oper} (hj:ops[j]? = some oj) {is2:List Nat} {w:World} (hC:C w) :
  ∀ (is1:List Nat) (fs:Facts) (a:Act),(∀ i∈is1,i≠j∧waits ops j i=false∧waits ops i j=false∧∀ oi,ops[i]? = some oi→oi.apart ops oj=true) →
   depsHold ops j fs w→gWalk P ops C R spec E (is1 ++ j :: is2) fs a→gOut P ops R spec fs j oj (fun fs' a'=>gWalk P ops C R spec E (is1 ++ is2) fs' a') a w:=by
 intro is1
 induction is1 with
 | nil =>
  intro fs a _ hd h
  simp only [List.nil_append,gWalk,hj] at h ⊢
  exact gOut_of_step hC hd h
 | cons i is1 ih =>
  intro fs a hall hd h
  obtain ⟨hij,hji,hijw,hap⟩:=hall i (by simp)
  have hall':=fun k (hk:k∈is1)=>hall k (by simp [hk])
  simp only [List.cons_append,gWalk] at h ⊢
  cases hi:ops[i]? with
  | none =>
   simp only [hi] at h ⊢
   exact ih fs a hall' hd h
  | some oi =>
   simp only [hi] at h ⊢
   obtain ⟨h1,h2,h3⟩:=Oper.apart_spec (hap oi hi)
   have hsi:=fun cs b=>Region.noSelect_spec hsel i oi cs b hi
   have hsj:=fun cs b=>Region.noSelect_spec hsel j oj cs b hj
   have ei:∀ (a:Act) (v:Value),execOp (a.put oj.dst v).eval oi=execOp a.eval oi:=fun a v=>execOp_put (ops:=ops) oi hsi a oj.dst v h3
   have wi:∀ (a:Act) (v:Value),Region.wanted oi (yielded ops (a.put oj.dst v).tmps)=Region.wanted oi (yielded ops a.tmps):=fun a v=>wanted_put oi a oj.dst v h3
   have ej:∀ (a:Act) (v:Value),execOp (a.put oi.dst v).eval oj=execOp a.eval oj:=fun a v=>execOp_put (ops:=ops) oj hsj a oi.dst v h1
   have wj:∀ (a:Act) (v:Value),Region.wanted oj (yielded ops (a.put oi.dst v).tmps)=Region.wanted oj (yielded ops a.tmps):=fun a v=>wanted_put oj a oi.dst v h1
   have comm:∀ (a:Act) (u v:Value),(a.put oi.dst u).put oj.dst v=(a.put oj.dst v).put oi.dst u:=fun a u v=>Act.put_comm a u v h2
   have dkeep:∀ (fs:Facts) (f:World→Prop) (w:World),depsHold ops i (fs.upd j f) w→depsHold ops i fs w:=fun fs f w hh q hq=>by
    have:=hh q hq
    rwa [Facts.upd_ne _ (fun e=>by rw [e] at hijw; rw [hijw] at hq; cases hq)] at this
   have dj:∀ (f:World→Prop),depsHold ops j (fs.upd i f) w:=fun f q hq=>by
    rw [Facts.upd_ne _ (fun e=>by rw [e] at hji; rw [hji] at hq; cases hq)]
    exact hd q hq
   -- a step of i behind j
   have fold:∀ (fs:Facts) (v:Value),gStep P ops C R spec fs i oi (fun fs' a'=>gWalk P ops C R spec E (is1 ++ is2) fs' a') (a.put oj.dst v) =
     (if Region.wanted oi (yielded ops a.tmps)=true then
      match spec i with
      | .det=>∃ c,(∀ w,C w→detUpon w c ((execOp a.eval oi).run P w))∧gWalk P ops C R spec E (is1 ++ is2) fs ((a.put oi.dst c).put oj.dst v)
      | .con c=>(∀ w,C w→depsHold ops i fs w→growUpon P R (fun v _=>v=c) w ((execOp a.eval oi).run P w))∧gWalk P ops C R spec E (is1 ++ is2) fs ((a.put oi.dst c).put oj.dst v)
      | .any F=>(∀ w,C w→depsHold ops i fs w→growUpon P R F w ((execOp a.eval oi).run P w))∧∀ u,gWalk P ops C R spec E (is1 ++ is2) (fs.upd i (F u)) ((a.put oi.dst u).put oj.dst v)
     else gWalk P ops C R spec E (is1 ++ is2) fs ((a.put oi.dst undef).put oj.dst v)):=by
    intro fs v
    unfold gStep
    rw [wi]
    simp only [ei,comm]
   unfold gStep at h
   by_cases hwi:Region.wanted oi (yielded ops a.tmps)=true
   ·rw [if_pos hwi] at h
    simp only [gOut,fold,if_pos hwi]
    cases hs:spec i with
    | det =>
     simp only [hs] at h ⊢
     obtain ⟨c,hc,h⟩:=h
     have h:=ih fs _ hall' hd h
     unfold gOut at h
     rw [wj] at h
     simp only [ej] at h
     split
     ·rename_i hwj
      rw [if_pos hwj] at h
      cases hsj':spec j with
      | det =>
       simp only [hsj'] at h ⊢
       obtain ⟨c',g1,g2⟩:=h
       exact ⟨c',g1,c,hc,g2⟩
      | con c' =>
       simp only [hsj'] at h ⊢
       exact ⟨h.1,c,hc,h.2⟩
      | any F =>
       simp only [hsj'] at h ⊢
       exact ⟨h.1,fun v=>⟨c,hc,h.2 v⟩⟩
     ·rename_i hwj
      rw [if_neg hwj] at h
      exact ⟨c,hc,h⟩
    | con c =>
     simp only [hs] at h ⊢
     obtain ⟨hc,h⟩:=h
     have h:=ih fs _ hall' hd h
     unfold gOut at h
     rw [wj] at h
     simp only [ej] at h
     split
     ·rename_i hwj
      rw [if_pos hwj] at h
      cases hsj':spec j with
      | det =>
       simp only [hsj'] at h ⊢
       obtain ⟨c',g1,g2⟩:=h
       exact ⟨c',g1,hc,g2⟩
      | con c' =>
       simp only [hsj'] at h ⊢
       exact ⟨h.1,hc,h.2⟩
      | any F =>
       simp only [hsj'] at h ⊢
       exact ⟨h.1,fun v=>⟨fun w hw hd=>hc w hw (dkeep _ _ _ hd),h.2 v⟩⟩
     ·rename_i hwj
      rw [if_neg hwj] at h
      exact ⟨hc,h⟩
    | any F =>
     simp only [hs] at h ⊢
     obtain ⟨hc,h⟩:=h
     have h:=fun u=>ih (fs.upd i (F u)) _ hall' (dj _) (h u)
     simp only [gOut,wj,ej] at h
     split
     ·rename_i hwj
      simp only [if_pos hwj] at h
      cases hsj':spec j with
      | det =>
       simp only [hsj'] at h ⊢
       obtain ⟨c',g1,_⟩:=h undef
       refine ⟨c',g1,hc,fun u=>?_⟩
       obtain ⟨c2,k1,k2⟩:=h u
       rw [detUpon_same g1 k1]
       exact k2
      | con c' =>
       simp only [hsj'] at h ⊢
       exact ⟨(h undef).1,hc,fun u=>(h u).2⟩
      | any F' =>
       simp only [hsj'] at h ⊢
       refine ⟨(h undef).1,fun v=>⟨fun w hw hd=>hc w hw (dkeep _ _ _ hd),fun u=>?_⟩⟩
       have:=(h u).2 v
       rwa [Facts.upd_comm _ hij] at this
     ·rename_i hwj
      simp only [if_neg hwj] at h
      exact ⟨hc,h⟩
   ·rw [if_neg hwi] at h
    simp only [gOut,fold,if_neg hwi]
    have h:=ih fs _ hall' hd h
    unfold gOut at h
    rw [wj] at h
    simp only [ej] at h
    split
    ·rename_i hwj
     rw [if_pos hwj] at h
     exact h
    ·rename_i hwj
     rw [if_neg hwj] at h
     exact h
end
end Go.Proofs.YtihbaieiempjeaaGreat
