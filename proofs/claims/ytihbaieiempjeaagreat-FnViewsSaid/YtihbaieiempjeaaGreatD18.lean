/- Lemmas of the proof: PruI, Cost. -/
import Derived.Test.YtihbaieiempjeaaGreatD0
import Derived.Test.YtihbaieiempjeaaGreatD16
import Derived.Test.YtihbaieiempjeaaGreatD17
namespace Go.Proofs.YtihbaieiempjeaaGreat
open Go.RowKit
structure LivI (w:World) (G:Option Addr) (n cg:Nat) (O:Option Addr) (m co gb:Nat) (L:List Bool) (wr:World):Prop where
 x:Blk wr w.heap.size TS #[.slice G n cg,.slice O m co]
 r:Blk wr (w.heap.size + 1) TS #[.slice none 0 0,.slice none 0 0]
 b:RowB wr gb n n L
 bl:Below w.heap.size w wr
 lg:w.heap.size + 2≤gb
section
variable {w:World} {G:Option Addr} {n cg:Nat} {O:Option Addr} {m co gb:Nat} {L:List Bool} {wr w':World}
theorem LivI.below (h:LivI w G n cg O m co gb L wr) (hb:Below wr.heap.size wr w'):LivI w G n cg O m co gb L w':=⟨h.x.past hb,h.r.past hb,h.b.below hb,h.bl.trans (hb.mono h.bl.size),h.lg⟩
theorem LivI.mark {L':List Bool} (h:LivI w G n cg O m co gb L wr) (h1:RowB w' gb n n L') (h2:wr.grownBy w' (some gb)):LivI w G n cg O m co gb L' w':=by
 have hl:=h.lg
 refine ⟨h.x.grown h2 (fun e=>?_),h.r.grown h2 (fun e=>?_),h1,below_apps h.bl h2 h.bl.size (by omega),hl⟩
 ·injection e with e
  omega
 ·injection e with e
  omega
end
set_option linter.unusedVariables false in
set_option maxRecDepth 100000 in
set_option maxHeartbeats 6400000 in
theorem iPrune (G O:Option Addr) (cg co:Nat) (gs:List Gt) (os:List Int) (w:World) (hg:Cells w w.heap.size G (ints (flatG gs))) (ho:Cells w w.heap.size O (ints os)) (hok:circB gs os=true) (hm:os.length≤1000000) :
  Calls Tryz.prog 103 #[.agg #[.slice G gs.length cg,.slice O os.length co]] w (GivesK w (prunC gs os).1 (prunC gs os).2):=by
 obtain ⟨hn6,hgv,hov⟩:=circ_parts hok
 have HG:=hid hg
 have HO:=hid ho
 have HK:=hid (fun w hg ho=>iCircOk G O cg co gs os w hg ho (by omega) hm)
 rw [hok] at HK
 obtain ⟨LV,hLV⟩:∃ l,liveG gs os=l:=⟨_,rfl⟩
 have hll0:LV.length=gs.length:=by rw [←hLV,liveG_length]
 have HT:=hid (prTo_ok (L:=LV) hgv (by rw [←hLV]; exact liveG_fed hgv os))
 have HV:=hid hgv
 have HOV:=hid (outs_wire hov)
 have HR:=hid (show prunC gs os=((prTo gs LV gs.length).1,mapO (prTo gs LV gs.length).2 os) by unfold prunC; rw [if_pos hok,hLV])
 have HLL:=hid hll0
 have HLV:=hid hLV
 clear hg ho hok hgv hov hLV hll0
 go_enter Tryz.func103,Tryz.ntmps103
 have b_0:=(Below.refl w.heap.size w)
 have s_0:=b_0.size
 go_upto_region 1 with fail
 refine wp_forget2 (w0:=w) (B:=w.heap.size) (b0:=w.heap.size) (t0:=40) (c0:=#[.slice G gs.length cg,.slice O os.length co]) (b1:=w.heap.size + 1) (t1:=40) (c1:=#[.slice none 0 0,.slice none 0 0]) ?_ ?_ ?_ ?_
 (focus exact blkcBy2)
 (focus exact blkcBy2)
 (focus (exact belBy))
 intro w1 x_1 r_1 hX1
 have sX1:=hX1.size
 have x_lt:=x_1.lt
 have r_lt:=r_1.lt
 have b_1:=b_0.trans (hX1.mono (by omega))
 clear b_0 hX1
 have cell_x:=x_1.cell
 have froz_x:=x_1.frozen
 have lt_x:=x_1.lt
 have cell_r:=r_1.cell
 have froz_r:=r_1.frozen
 have lt_r:=r_1.lt
 go_wp2_with fail
 refine calls_forget0 (W:=w1) ?_ ?_
 (focus (exact belBy))
 intro X2 hX2
 have sX2:=hX2.size
 refine (HK.out _ ((HG.out.below (b_1.trans (hX2.mono (by omega)))).more (by omega)) ((HO.out.below (b_1.trans (hX2.mono (by omega)))).more (by omega))).mono ?_
 rintro e w2 ⟨rfl,hb2⟩
 have s2:=hb2.size
 have hT2:=hX2.trans (hb2.mono sX2)
 have b_2:=b_1.trans (hT2.mono (by omega))
 have x_2:=Blk.past hT2 x_1
 have r_2:=Blk.past hT2 r_1
 clear x_1 r_1 b_1 cell_x froz_x lt_x cell_r froz_r lt_r hX2 hT2 hb2
 have cell_x:=x_2.cell
 have froz_x:=x_2.frozen
 have lt_x:=x_2.lt
 have cell_r:=r_2.cell
 have froz_r:=r_2.frozen
 have lt_r:=r_2.lt
 have H2:=hid (And.intro x_2 (And.intro r_2 b_2))
 have z2:=b_2.size
 have hxl:=x_2.lt
 have hrl:=r_2.lt
 clear x_2 r_2 b_2 cell_r froz_r lt_r froz_x
 obtain ⟨i0,hi,hz0,hz1,hz2⟩:=info_parts infoB
 go_wp2_with (at_make; refine wpList_make_full _ rfl _ _ 147 rfl w2.heap.size 4 i0 (.bool false) 1 Tryz.underlying147 hi hz0 hz1 _ _ _ _ gs.length rfl rfl rfl rfl (by rw [hz2]; omega) (by unfold maxLen; omega) (Nat.le_refl _) ?_)
 intro w3 hown hgr
 have hb2:Below w2.heap.size w2 w3:=(Below.refl _ _).grown hgr (Nat.le_refl _) (fun k hk=>by cases hk)
 have hr2:RowB w3 w2.heap.size gs.length gs.length (live0 gs.length []):=by
  show Row _ _ _ _ _ _ _
  rw [show live0 gs.length []=List.replicate gs.length false from rfl,make_bools]
  exact own_weak hown (Nat.zero_le _)
 have z3:=hb2.size
 have H3:=hid (show LivI w G gs.length cg O os.length co w2.heap.size (live0 gs.length []) w3 from ⟨H2.out.1.past hb2,H2.out.2.1.past hb2,hr2,H2.out.2.2.trans (hb2.mono z2),by omega⟩)
 obtain ⟨gb,hgb⟩:∃ n,w2.heap.size=n:=⟨_,rfl⟩
 rw [hgb] at H3 ⊢
 clear hi hz0 hz1 hz2 hown hgr hb2 hr2 H2 hgb cell_x lt_x
 have cell_x:=H3.out.x.cell
 have lt_x:=H3.out.x.lt
 go_wp2_with fail
 clear cell_x lt_x
 go_loopw [5,26] (fun _ i wr=>∃ m:Nat,m≤os.length∧i=.int .i64 (m:Int)∧LivI w G gs.length cg O os.length co gb (live0 gs.length (os.take m)) wr) (fun _ i _=>os.length - (intOf i).toNat)
 case atStart=>exact ⟨0,Nat.zero_le _,rfl,H3.out⟩
 case round =>
  clear H3
  obtain ⟨m,hm2,rfl,hI⟩:=hrel
  have cell_x:=hI.x.cell
  have lt_x:=hI.x.lt
  by_cases hlt:m < os.length
  ·obtain ⟨x,hxo⟩:∃ s,os[m]? = some s:=⟨_,List.getElem?_eq_getElem hlt⟩
   have hw:=wireB_iff.1 (HOV.out x (List.mem_of_getElem? hxo))
   obtain ⟨mx,rfl⟩:=Int.eq_ofNat_of_zero_le hw.1
   have hst:=live0_at (n:=gs.length) hxo
   rw [Int.toNat_natCast] at hst
   obtain ⟨bo,oo,rfl,hBo,e0⟩:=int_cells HO.out hI.bl hxo
   have hbo:=hI.bl.size
   obtain ⟨L,hL⟩:∃ L,live0 gs.length (os.take m)=L:=⟨_,rfl⟩
   have hll:L.length=gs.length:=by rw [←hL,live0_length]
   rw [hL] at hI hst
   have hlt':(m:Int) < (os.length:Int):=by omega
   have hmx:(mx:Int) < (gs.length:Int):=by omega
   have f0:=hI.b.cell (bools_get (getD_some (L:=L) (i:=mx) (by omega)))
   have f1:=World.ownsRow.frozenAt hI.b mx
   have hgl:=hI.b.lt
   obtain ⟨s1,s2⟩:=hI.b.set_ mx true
   have HN:=hid (And.intro (hI.mark s1 s2) hst)
   clear hI hxo hw hst hL s1 s2 hll
   go_wp2
   go_roundw
   case rel=>exact ⟨m + 1,by omega,by go_num,by rw [HN.out.2]; exact HN.out.1⟩
   case measure=>simp [intOf]; omega
  ·obtain rfl:m=os.length:=by omega
   rw [List.take_length] at hI
   have H4:=hid hI
   clear hI
   have hw1:IntKind.i64.wrap ((gs.length:Int) - 1)=(gs.length:Int) - 1:=IntWalk.i64_in _ (by omega)
   go_wp2_with fail
   go_loopw [6,7] (fun i _ wr=>∃ (k:Nat) (x:Int) (L:List Bool),k≤gs.length∧x=(k:Int) - 1∧i=.int .i64 x∧L.length=gs.length∧liveTo gs L k=liveG gs os∧LivI w G gs.length cg O os.length co gb L wr) (fun i _ _=>(intOf i + 1).toNat)
   case atStart=>exact ⟨gs.length,(gs.length:Int) - 1,_,Nat.le_refl _,rfl,rfl,live0_length _ _,rfl,H4.out⟩
   case round =>
    clear H4
    obtain ⟨k,x,L,hk,hxk,rfl,hll,hlt2,hI⟩:=hrel
    have cell_x:=hI.x.cell
    have lt_x:=hI.x.lt
    cases k with
    | zero =>
     obtain rfl:x = -1:=by omega
     have hLL:L=LV:=hlt2.trans HLV.out
     subst hLL
     clear hlt2 hxk hll HLV hk
     have hw3:=hI.bl.size
     have hbl3:=hI.b.lt
     have hlg3:=hI.lg
     have HI3:=hid hI
     clear hI
     have b_4:=(Below.refl wr.heap.size wr)
     have s_4:=b_4.size
     go_upto_region 18 with fail
     refine wp_forget1 (w0:=wr) (B:=wr.heap.size) (b0:=wr.heap.size) (t0:=40) (c0:=#[.slice none 0 0,.slice none 0 0]) ?_ ?_ ?_
     (focus exact blkcBy2)
     (focus (exact belBy))
     intro w5 y_5 hX5
     have sX5:=hX5.size
     have y_lt:=y_5.lt
     have b_5:=b_4.trans (hX5.mono (by omega))
     clear b_4 hX5
     have cell_y:=y_5.cell
     have froz_y:=y_5.frozen
     have lt_y:=y_5.lt
     have hI5:=HI3.out.below b_5
     have z5:=b_5.size
     have hyl:=y_5.lt
     have H5:=hid (And.intro hI5 y_5)
     clear hI5 y_5 b_5 HI3 cell_y froz_y lt_y cell_x lt_x
     have cell_x:=H5.out.1.x.cell
     have lt_x:=H5.out.1.x.lt
     obtain ⟨i0,hi,hz0,hz1,hz2⟩:=info_parts infoI
     go_wp2_with (at_make; refine wpList_make_full _ rfl _ _ 30 rfl w5.heap.size 3 i0 (.int .i64 0) 1 Tryz.underlying30 hi hz0 hz1 _ _ _ _ gs.length rfl rfl rfl rfl (by rw [hz2]; omega) (by unfold maxLen; omega) (Nat.le_refl _) ?_)
     intro w6 hown hgr
     have hb4:Below w5.heap.size w5 w6:=(Below.refl _ _).grown hgr (Nat.le_refl _) (fun k hk=>by cases hk)
     have hr4:RowI w6 w5.heap.size gs.length gs.length (List.replicate gs.length 0):=by
      show Row _ _ _ _ _ _ _
      rw [make_ints]
      exact own_weak hown (Nat.zero_le _)
     have z4:=hb4.size
     have hI6:=H5.out.1.below hb4
     have H6:=hid (And.intro (show SimI w wr.heap.size w5.heap.size gs.length G gs.length cg O os.length co [] (List.replicate gs.length 0) none 0 [] w6 from
      ⟨hI6.x,hI6.r,⟨none,0,H5.out.2.past hb4,Nat.le_refl _,own_none⟩,(by rw [List.length_replicate]; exact hr4),own_none,(fun q hq=>by cases hq),hI6.bl,by omega,by omega⟩) hI6.b)
     obtain ⟨bc,hbc⟩:∃ n,wr.heap.size=n:=⟨_,rfl⟩
     obtain ⟨gt,hgt0⟩:∃ n,w5.heap.size=n:=⟨_,rfl⟩
     rw [hbc,hgt0] at H6
     rw [hbc,hgt0]
     clear hi hz0 hz1 hz2 hown hgr hb4 hr4 H5 hI6 cell_x lt_x hbc hgt0
     have cell_x:=H6.out.1.x.cell
     have lt_x:=H6.out.1.x.lt
     go_wp2_with fail
     clear cell_x lt_x
     go_loopw [10,11,81] (fun _ _ i wr=>∃ j:Nat,j≤gs.length∧i=.int .i64 (j:Int)∧SimI w bc gt gs.length G gs.length cg O os.length co (prTo gs L j).1 (prTo gs L j).2 none 0 [] wr∧RowB wr gb gs.length gs.length L) (fun _ _ i _=>gs.length - (intOf i).toNat)
     case atStart=>exact ⟨0,Nat.zero_le _,rfl,H6.out.1,H6.out.2⟩
     case round =>
      clear H6
      obtain ⟨j,hj,rfl,hI,hl⟩:=hrel
      have hok:=HT.out j hj
      have cell_x:=hI.x.cell
      have froz_x:=hI.x.frozen
      have lt_x:=hI.x.lt
      by_cases hlt:j < gs.length
      ·obtain ⟨⟨q,a,b⟩,hx⟩:∃ s,gs[j]? = some s:=⟨_,List.getElem?_eq_getElem hlt⟩
       have hgv:=gatesB_at HV.out hx
       rw [Nat.zero_add] at hgv
       have egd:gs.getD j ⟨0,0,0⟩=⟨q,a,b⟩:=by rw [List.getD_eq_getElem?_getD,hx]; rfl
       obtain ⟨bg,og,rfl,hBg,d0,d1,d2⟩:=gt_cells HG.out hI.bl hx
       have hbg:=hI.bl.size
       have hst:prTo gs L (j + 1)=prS gs L (prTo gs L j) j:=rfl
       obtain ⟨st,hst0⟩:∃ c,prTo gs L j=c:=⟨_,rfl⟩
       rw [hst0] at hI hok hst
       have hlt':(j:Int) < (gs.length:Int):=by omega
       have hhi:=hok.hi
       have htl:=hok.tl
       have hgbl:=hl.lt
       have hgtl:=hI.t.lt
       obtain ⟨lv,hlv⟩:∃ v,L.getD j false=v:=⟨_,rfl⟩
       have ek:wr.cell? ⟨gb,j,none⟩=some (.bool lv):=hl.cell (bools_get (by rw [getD_some (L:=L) (i:=j) (by have:=HLL.out; omega),hlv]))
       clear hx hst0 hok
       cases lv
       ·have hls:prS gs L st j=st:=by unfold prS; rw [if_neg (by rw [hlv]; simp)]
        have HS:=hid (hst.trans hls)
        have HI:=hid (And.intro hI hl)
        clear hst hls hgv hlv egd hI hl
        have b_30:=(Below.refl wr.heap.size wr)
        have s_30:=b_30.size
        go_upto_region 22 with fail
        refine wp_forget1 (w0:=wr) (B:=wr.heap.size) (b0:=wr.heap.size) (t0:=96) (c0:=#[.int .i64 q,.int .i64 a,.int .i64 b]) ?_ ?_ ?_
        (focus exact blkcBy2)
        (focus (exact belBy))
        intro w31 q_31 hX31
        have sX31:=hX31.size
        have q_lt:=q_31.lt
        have b_31:=b_30.trans (hX31.mono (by omega))
        clear b_30 hX31
        have cell_q:=q_31.cell
        have froz_q:=q_31.frozen
        have lt_q:=q_31.lt
        have ek3:w31.cell? ⟨gb,j,none⟩=some (.bool false):=(HI.out.2.below b_31).cell (bools_get (by have:=HI.out.2.cell (bools_get (L:=L) (k:=j) (v:=L.getD j false) (getD_some (by have:=HLL.out; omega))); rw [ek] at this; injection this with this; injection this with this; rw [getD_some (L:=L) (i:=j) (by have:=HLL.out; omega),←this]))
        have HF:=hid (And.intro (HI.out.1.below b_31) (HI.out.2.below b_31))
        clear b_31 q_31 cell_x froz_x lt_x
        go_wp2
        go_roundw
        case rel=>exact ⟨j + 1,by omega,by go_num,by rw [HS.out]; exact HF.out.1,HF.out.2⟩
        case measure=>simp [intOf]; omega
       ·have hls:prS gs L st j=(st.1 ++ [reG st.2 ⟨q,a,b⟩],st.2.set j (st.1.length:Int)):=by unfold prS; rw [if_pos hlv,egd]
        clear hlv egd
        rcases gate_kind hgv with hk2 | hk2 | hk2 | hk2 | hk2
        ·obtain rfl:q=1:=hk2
         have hre:reG st.2 ⟨1,a,b⟩=⟨1,a,b⟩:=rfl
         rw [hre] at hls
         have HS:=hid (hst.trans hls)
         clear hst hls hre hgv
         have HI:=hid hI
         have HL:=hid hl
         clear hI hl
         have b_30:=(Below.refl wr.heap.size wr)
         have s_30:=b_30.size
         go_upto_region 27 with fail
         refine wp_forget1 (w0:=wr) (B:=wr.heap.size) (b0:=wr.heap.size) (t0:=96) (c0:=#[.int .i64 1,.int .i64 a,.int .i64 b]) ?_ ?_ ?_
         (focus exact blkcBy2)
         (focus (exact belBy))
         intro w31 q_31 hX31
         have sX31:=hX31.size
         have q_lt:=q_31.lt
         have b_31:=b_30.trans (hX31.mono (by omega))
         clear b_30 hX31
         have cell_q:=q_31.cell
         have froz_q:=q_31.frozen
         have lt_q:=q_31.lt
         have hI3:=HI.out.below b_31
         have hL3:=HL.out.below b_31
         have HQ:=hid q_31
         have z31:=b_31.size
         obtain ⟨Gx,cgx,hbk,_,hg1⟩:=hI3.b
         have cell_y:=hbk.cell
         have froz_y:=hbk.frozen
         have lt_y:=hbk.lt
         have ht3:=hI3.t
         rw [htl] at ht3
         have hgl:=ht3.lt
         have fj:w31.cell? ⟨gt,j,none⟩=some (.int .i64 (st.2.getD j 0)):=ht3.cell (ints_get (by rw [List.getD_eq_getElem?_getD,List.getElem?_eq_getElem (show j < st.2.length by omega)]; rfl))
         have zj:=World.ownsRow.frozenAt ht3 j
         have HI3:=hid hI3
         have HT3:=hid ht3
         have HL3:=hid hL3
         clear b_31 q_31 HI HL hI3 hL3 hbk hg1 ht3 cell_x froz_x lt_x d0 d1 d2 ek
         go_upto_region 28 with fail
         refine wp_noteI HT3.out j (st.1.length:Int) ?_
         intro w32 r32 g32
         have hI4:=SimI.set_ HI3.out (j:=j) (v:=(st.1.length:Int)) (by rw [htl]; exact r32) g32
         have hL4:=HL3.out.grown g32 (row_apart HL3.out HT3.out (by decide))
         have hq4:=gr_blk g32 HQ.out (fun q hq=>by injection hq with hq; subst hq; exact HT3.out.not_blk HQ.out (by decide))
         obtain ⟨Gx,cgx,hbk,hle,hg1⟩:=hI4.b
         have cell_y:=hbk.cell
         have froz_y:=hbk.frozen
         have lt_y:=hbk.lt
         have cell_q:=hq4.cell
         have lt_q:=hq4.lt
         have HI4:=hid (And.intro hI4 (And.intro hL4 (And.intro hbk hg1)))
         have hsz4:=hI4.bl.size
         have hlb4:=hI4.lb
         clear hI4 hL4 hq4 hbk hg1 r32 g32 HI3 HT3 HL3 HQ fj zj froz_q
         go_wp2_with (at_builtin; refine wpList_appi rfl _ _ 38 rfl bc TG (.agg #[.int .i64 0,.int .i64 0,.int .i64 0]) 3 24 Tryz.underlying38 infoGt rfl (by decide) _ st.1.length _ rfl (HI4.out.2.2.2.alloc _) ⟨w32.heap.size,0,none⟩ 1 1 _ rfl rfl (many_new _ [_,_,_] _) (int3_one _ _ _) (by omega) (by decide) (by simp; omega) ?_)
         intro A' c' w5 h1 h2 _
         have h2:=grown_alloc h2
         obtain ⟨hb5,hB5,hS5⟩:=bld_put (T:=TS) (g:=⟨1,a,b⟩) (by decide) HI4.out.2.2.1 hle HI4.out.2.2.2 h1 h2
         have HF:=hid (And.intro (SimI.stay HI4.out.1 hB5 hS5) (hS5.row HI4.out.2.1 (by decide) (by decide)))
         have cell_5:=hb5.cell
         have froz_5:=hb5.frozen
         have lt_5:=hb5.lt
         clear h1 h2 hb5 hB5 hS5 HI4 cell_y froz_y lt_y cell_q lt_q
         go_wp2
         go_roundw
         case rel=>exact ⟨j + 1,by omega,by go_num,by rw [HS.out]; exact HF.out.1,HF.out.2⟩
         case measure=>simp [intOf]; omega
        ·obtain rfl:q=2:=hk2
         have hre:reG st.2 ⟨2,a,b⟩=⟨2,a,b⟩:=rfl
         rw [hre] at hls
         have HS:=hid (hst.trans hls)
         clear hst hls hre hgv
         have HI:=hid hI
         have HL:=hid hl
         clear hI hl
         have b_30:=(Below.refl wr.heap.size wr)
         have s_30:=b_30.size
         go_upto_region 27 with fail
         refine wp_forget1 (w0:=wr) (B:=wr.heap.size) (b0:=wr.heap.size) (t0:=96) (c0:=#[.int .i64 2,.int .i64 a,.int .i64 b]) ?_ ?_ ?_
         (focus exact blkcBy2)
         (focus (exact belBy))
         intro w31 q_31 hX31
         have sX31:=hX31.size
         have q_lt:=q_31.lt
         have b_31:=b_30.trans (hX31.mono (by omega))
         clear b_30 hX31
         have cell_q:=q_31.cell
         have froz_q:=q_31.frozen
         have lt_q:=q_31.lt
         have hI3:=HI.out.below b_31
         have hL3:=HL.out.below b_31
         have HQ:=hid q_31
         have z31:=b_31.size
         obtain ⟨Gx,cgx,hbk,_,hg1⟩:=hI3.b
         have cell_y:=hbk.cell
         have froz_y:=hbk.frozen
         have lt_y:=hbk.lt
         have ht3:=hI3.t
         rw [htl] at ht3
         have hgl:=ht3.lt
         have fj:w31.cell? ⟨gt,j,none⟩=some (.int .i64 (st.2.getD j 0)):=ht3.cell (ints_get (by rw [List.getD_eq_getElem?_getD,List.getElem?_eq_getElem (show j < st.2.length by omega)]; rfl))
         have zj:=World.ownsRow.frozenAt ht3 j
         have HI3:=hid hI3
         have HT3:=hid ht3
         have HL3:=hid hL3
         clear b_31 q_31 HI HL hI3 hL3 hbk hg1 ht3 cell_x froz_x lt_x d0 d1 d2 ek
         go_upto_region 28 with fail
         refine wp_noteI HT3.out j (st.1.length:Int) ?_
         intro w32 r32 g32
         have hI4:=SimI.set_ HI3.out (j:=j) (v:=(st.1.length:Int)) (by rw [htl]; exact r32) g32
         have hL4:=HL3.out.grown g32 (row_apart HL3.out HT3.out (by decide))
         have hq4:=gr_blk g32 HQ.out (fun q hq=>by injection hq with hq; subst hq; exact HT3.out.not_blk HQ.out (by decide))
         obtain ⟨Gx,cgx,hbk,hle,hg1⟩:=hI4.b
         have cell_y:=hbk.cell
         have froz_y:=hbk.frozen
         have lt_y:=hbk.lt
         have cell_q:=hq4.cell
         have lt_q:=hq4.lt
         have HI4:=hid (And.intro hI4 (And.intro hL4 (And.intro hbk hg1)))
         have hsz4:=hI4.bl.size
         have hlb4:=hI4.lb
         clear hI4 hL4 hq4 hbk hg1 r32 g32 HI3 HT3 HL3 HQ fj zj froz_q
         go_wp2_with (at_builtin; refine wpList_appi rfl _ _ 38 rfl bc TG (.agg #[.int .i64 0,.int .i64 0,.int .i64 0]) 3 24 Tryz.underlying38 infoGt rfl (by decide) _ st.1.length _ rfl (HI4.out.2.2.2.alloc _) ⟨w32.heap.size,0,none⟩ 1 1 _ rfl rfl (many_new _ [_,_,_] _) (int3_one _ _ _) (by omega) (by decide) (by simp; omega) ?_)
         intro A' c' w5 h1 h2 _
         have h2:=grown_alloc h2
         obtain ⟨hb5,hB5,hS5⟩:=bld_put (T:=TS) (g:=⟨2,a,b⟩) (by decide) HI4.out.2.2.1 hle HI4.out.2.2.2 h1 h2
         have HF:=hid (And.intro (SimI.stay HI4.out.1 hB5 hS5) (hS5.row HI4.out.2.1 (by decide) (by decide)))
         have cell_5:=hb5.cell
         have froz_5:=hb5.frozen
         have lt_5:=hb5.lt
         clear h1 h2 hb5 hB5 hS5 HI4 cell_y froz_y lt_y cell_q lt_q
         go_wp2
         go_roundw
         case rel=>exact ⟨j + 1,by omega,by go_num,by rw [HS.out]; exact HF.out.1,HF.out.2⟩
         case measure=>simp [intOf]; omega
        ·obtain rfl:q=3:=hk2
         have hab:=gate_is34 hgv (.inl rfl)
         dsimp only at hab
         obtain ⟨a,rfl⟩:=Int.eq_ofNat_of_zero_le hab.1.1
         obtain ⟨b,rfl⟩:=Int.eq_ofNat_of_zero_le hab.2.1
         obtain ⟨va,hva⟩:∃ v,st.2.getD a 0=v:=⟨_,rfl⟩
         obtain ⟨vb,hvb⟩:∃ v,st.2.getD b 0=v:=⟨_,rfl⟩
         have fa:wr.cell? ⟨gt,a,none⟩=some (.int .i64 va):=hI.t.cell (ints_get (by rw [List.getElem?_eq_getElem (show a < st.2.length by omega),←hva,List.getD_eq_getElem?_getD,List.getElem?_eq_getElem (show a < st.2.length by omega)]; rfl))
         have fb:wr.cell? ⟨gt,b,none⟩=some (.int .i64 vb):=hI.t.cell (ints_get (by rw [List.getElem?_eq_getElem (show b < st.2.length by omega),←hvb,List.getD_eq_getElem?_getD,List.getElem?_eq_getElem (show b < st.2.length by omega)]; rfl))
         have ha':(a:Int) < (gs.length:Int):=by omega
         have hb':(b:Int) < (gs.length:Int):=by omega
         have hre:reG st.2 ⟨3,(a:Int),(b:Int)⟩=⟨3,va,vb⟩:=by rw [←hva,←hvb]; rfl
         rw [hre] at hls
         have HS:=hid (hst.trans hls)
         clear hst hls hre hgv hva hvb
         have HI:=hid hI
         have HL:=hid hl
         clear hI hl
         have b_30:=(Below.refl wr.heap.size wr)
         have s_30:=b_30.size
         go_upto_region 27 with fail
         refine wp_forget1 (w0:=wr) (B:=wr.heap.size) (b0:=wr.heap.size) (t0:=96) (c0:=#[.int .i64 3,.int .i64 va,.int .i64 vb]) ?_ ?_ ?_
         (focus exact blkcBy2)
         (focus (exact belBy))
         intro w31 q_31 hX31
         have sX31:=hX31.size
         have q_lt:=q_31.lt
         have b_31:=b_30.trans (hX31.mono (by omega))
         clear b_30 hX31
         have cell_q:=q_31.cell
         have froz_q:=q_31.frozen
         have lt_q:=q_31.lt
         have hI3:=HI.out.below b_31
         have hL3:=HL.out.below b_31
         have HQ:=hid q_31
         have z31:=b_31.size
         obtain ⟨Gx,cgx,hbk,_,hg1⟩:=hI3.b
         have cell_y:=hbk.cell
         have froz_y:=hbk.frozen
         have lt_y:=hbk.lt
         have ht3:=hI3.t
         rw [htl] at ht3
         have hgl:=ht3.lt
         have fj:w31.cell? ⟨gt,j,none⟩=some (.int .i64 (st.2.getD j 0)):=ht3.cell (ints_get (by rw [List.getD_eq_getElem?_getD,List.getElem?_eq_getElem (show j < st.2.length by omega)]; rfl))
         have zj:=World.ownsRow.frozenAt ht3 j
         have HI3:=hid hI3
         have HT3:=hid ht3
         have HL3:=hid hL3
         clear b_31 q_31 HI HL hI3 hL3 hbk hg1 ht3 cell_x froz_x lt_x d0 d1 d2 ek fa fb
         go_upto_region 28 with fail
         refine wp_noteI HT3.out j (st.1.length:Int) ?_
         intro w32 r32 g32
         have hI4:=SimI.set_ HI3.out (j:=j) (v:=(st.1.length:Int)) (by rw [htl]; exact r32) g32
         have hL4:=HL3.out.grown g32 (row_apart HL3.out HT3.out (by decide))
         have hq4:=gr_blk g32 HQ.out (fun q hq=>by injection hq with hq; subst hq; exact HT3.out.not_blk HQ.out (by decide))
         obtain ⟨Gx,cgx,hbk,hle,hg1⟩:=hI4.b
         have cell_y:=hbk.cell
         have froz_y:=hbk.frozen
         have lt_y:=hbk.lt
         have cell_q:=hq4.cell
         have lt_q:=hq4.lt
         have HI4:=hid (And.intro hI4 (And.intro hL4 (And.intro hbk hg1)))
         have hsz4:=hI4.bl.size
         have hlb4:=hI4.lb
         clear hI4 hL4 hq4 hbk hg1 r32 g32 HI3 HT3 HL3 HQ fj zj froz_q
         go_wp2_with (at_builtin; refine wpList_appi rfl _ _ 38 rfl bc TG (.agg #[.int .i64 0,.int .i64 0,.int .i64 0]) 3 24 Tryz.underlying38 infoGt rfl (by decide) _ st.1.length _ rfl (HI4.out.2.2.2.alloc _) ⟨w32.heap.size,0,none⟩ 1 1 _ rfl rfl (many_new _ [_,_,_] _) (int3_one _ _ _) (by omega) (by decide) (by simp; omega) ?_)
         intro A' c' w5 h1 h2 _
         have h2:=grown_alloc h2
         obtain ⟨hb5,hB5,hS5⟩:=bld_put (T:=TS) (g:=⟨3,va,vb⟩) (by decide) HI4.out.2.2.1 hle HI4.out.2.2.2 h1 h2
         have HF:=hid (And.intro (SimI.stay HI4.out.1 hB5 hS5) (hS5.row HI4.out.2.1 (by decide) (by decide)))
         have cell_5:=hb5.cell
         have froz_5:=hb5.frozen
         have lt_5:=hb5.lt
         clear h1 h2 hb5 hB5 hS5 HI4 cell_y froz_y lt_y cell_q lt_q
         go_wp2
         go_roundw
         case rel=>exact ⟨j + 1,by omega,by go_num,by rw [HS.out]; exact HF.out.1,HF.out.2⟩
         case measure=>simp [intOf]; omega
        ·obtain rfl:q=4:=hk2
         have hab:=gate_is34 hgv (.inr rfl)
         dsimp only at hab
         obtain ⟨a,rfl⟩:=Int.eq_ofNat_of_zero_le hab.1.1
         obtain ⟨b,rfl⟩:=Int.eq_ofNat_of_zero_le hab.2.1
         obtain ⟨va,hva⟩:∃ v,st.2.getD a 0=v:=⟨_,rfl⟩
         obtain ⟨vb,hvb⟩:∃ v,st.2.getD b 0=v:=⟨_,rfl⟩
         have fa:wr.cell? ⟨gt,a,none⟩=some (.int .i64 va):=hI.t.cell (ints_get (by rw [List.getElem?_eq_getElem (show a < st.2.length by omega),←hva,List.getD_eq_getElem?_getD,List.getElem?_eq_getElem (show a < st.2.length by omega)]; rfl))
         have fb:wr.cell? ⟨gt,b,none⟩=some (.int .i64 vb):=hI.t.cell (ints_get (by rw [List.getElem?_eq_getElem (show b < st.2.length by omega),←hvb,List.getD_eq_getElem?_getD,List.getElem?_eq_getElem (show b < st.2.length by omega)]; rfl))
         have ha':(a:Int) < (gs.length:Int):=by omega
         have hb':(b:Int) < (gs.length:Int):=by omega
         have hre:reG st.2 ⟨4,(a:Int),(b:Int)⟩=⟨4,va,vb⟩:=by rw [←hva,←hvb]; rfl
         rw [hre] at hls
         have HS:=hid (hst.trans hls)
         clear hst hls hre hgv hva hvb
         have HI:=hid hI
         have HL:=hid hl
         clear hI hl
         have b_30:=(Below.refl wr.heap.size wr)
         have s_30:=b_30.size
         go_upto_region 27 with fail
         refine wp_forget1 (w0:=wr) (B:=wr.heap.size) (b0:=wr.heap.size) (t0:=96) (c0:=#[.int .i64 4,.int .i64 va,.int .i64 vb]) ?_ ?_ ?_
         (focus exact blkcBy2)
         (focus (exact belBy))
         intro w31 q_31 hX31
         have sX31:=hX31.size
         have q_lt:=q_31.lt
         have b_31:=b_30.trans (hX31.mono (by omega))
         clear b_30 hX31
         have cell_q:=q_31.cell
         have froz_q:=q_31.frozen
         have lt_q:=q_31.lt
         have hI3:=HI.out.below b_31
         have hL3:=HL.out.below b_31
         have HQ:=hid q_31
         have z31:=b_31.size
         obtain ⟨Gx,cgx,hbk,_,hg1⟩:=hI3.b
         have cell_y:=hbk.cell
         have froz_y:=hbk.frozen
         have lt_y:=hbk.lt
         have ht3:=hI3.t
         rw [htl] at ht3
         have hgl:=ht3.lt
         have fj:w31.cell? ⟨gt,j,none⟩=some (.int .i64 (st.2.getD j 0)):=ht3.cell (ints_get (by rw [List.getD_eq_getElem?_getD,List.getElem?_eq_getElem (show j < st.2.length by omega)]; rfl))
         have zj:=World.ownsRow.frozenAt ht3 j
         have HI3:=hid hI3
         have HT3:=hid ht3
         have HL3:=hid hL3
         clear b_31 q_31 HI HL hI3 hL3 hbk hg1 ht3 cell_x froz_x lt_x d0 d1 d2 ek fa fb
         go_upto_region 28 with fail
         refine wp_noteI HT3.out j (st.1.length:Int) ?_
         intro w32 r32 g32
         have hI4:=SimI.set_ HI3.out (j:=j) (v:=(st.1.length:Int)) (by rw [htl]; exact r32) g32
         have hL4:=HL3.out.grown g32 (row_apart HL3.out HT3.out (by decide))
         have hq4:=gr_blk g32 HQ.out (fun q hq=>by injection hq with hq; subst hq; exact HT3.out.not_blk HQ.out (by decide))
         obtain ⟨Gx,cgx,hbk,hle,hg1⟩:=hI4.b
         have cell_y:=hbk.cell
         have froz_y:=hbk.frozen
         have lt_y:=hbk.lt
         have cell_q:=hq4.cell
         have lt_q:=hq4.lt
         have HI4:=hid (And.intro hI4 (And.intro hL4 (And.intro hbk hg1)))
         have hsz4:=hI4.bl.size
         have hlb4:=hI4.lb
         clear hI4 hL4 hq4 hbk hg1 r32 g32 HI3 HT3 HL3 HQ fj zj froz_q
         go_wp2_with (at_builtin; refine wpList_appi rfl _ _ 38 rfl bc TG (.agg #[.int .i64 0,.int .i64 0,.int .i64 0]) 3 24 Tryz.underlying38 infoGt rfl (by decide) _ st.1.length _ rfl (HI4.out.2.2.2.alloc _) ⟨w32.heap.size,0,none⟩ 1 1 _ rfl rfl (many_new _ [_,_,_] _) (int3_one _ _ _) (by omega) (by decide) (by simp; omega) ?_)
         intro A' c' w5 h1 h2 _
         have h2:=grown_alloc h2
         obtain ⟨hb5,hB5,hS5⟩:=bld_put (T:=TS) (g:=⟨4,va,vb⟩) (by decide) HI4.out.2.2.1 hle HI4.out.2.2.2 h1 h2
         have HF:=hid (And.intro (SimI.stay HI4.out.1 hB5 hS5) (hS5.row HI4.out.2.1 (by decide) (by decide)))
         have cell_5:=hb5.cell
         have froz_5:=hb5.frozen
         have lt_5:=hb5.lt
         clear h1 h2 hb5 hB5 hS5 HI4 cell_y froz_y lt_y cell_q lt_q
         go_wp2
         go_roundw
         case rel=>exact ⟨j + 1,by omega,by go_num,by rw [HS.out]; exact HF.out.1,HF.out.2⟩
         case measure=>simp [intOf]; omega
        ·obtain rfl:q=5:=hk2
         have hab:=gate_is5 hgv rfl
         dsimp only at hab
         obtain ⟨hab,hb0⟩:=hab
         subst hb0
         obtain ⟨a,rfl⟩:=Int.eq_ofNat_of_zero_le hab.1
         obtain ⟨va,hva⟩:∃ v,st.2.getD a 0=v:=⟨_,rfl⟩
         have fa:wr.cell? ⟨gt,a,none⟩=some (.int .i64 va):=hI.t.cell (ints_get (by rw [List.getElem?_eq_getElem (show a < st.2.length by omega),←hva,List.getD_eq_getElem?_getD,List.getElem?_eq_getElem (show a < st.2.length by omega)]; rfl))
         have ha':(a:Int) < (gs.length:Int):=by omega
         have hre:reG st.2 ⟨5,(a:Int),0⟩=⟨5,va,0⟩:=by rw [←hva]; rfl
         rw [hre] at hls
         have HS:=hid (hst.trans hls)
         clear hst hls hre hgv hva
         have HI:=hid hI
         have HL:=hid hl
         clear hI hl
         have b_30:=(Below.refl wr.heap.size wr)
         have s_30:=b_30.size
         go_upto_region 27 with fail
         refine wp_forget1 (w0:=wr) (B:=wr.heap.size) (b0:=wr.heap.size) (t0:=96) (c0:=#[.int .i64 5,.int .i64 va,.int .i64 0]) ?_ ?_ ?_
         (focus exact blkcBy2)
         (focus (exact belBy))
         intro w31 q_31 hX31
         have sX31:=hX31.size
         have q_lt:=q_31.lt
         have b_31:=b_30.trans (hX31.mono (by omega))
         clear b_30 hX31
         have cell_q:=q_31.cell
         have froz_q:=q_31.frozen
         have lt_q:=q_31.lt
         have hI3:=HI.out.below b_31
         have hL3:=HL.out.below b_31
         have HQ:=hid q_31
         have z31:=b_31.size
         obtain ⟨Gx,cgx,hbk,_,hg1⟩:=hI3.b
         have cell_y:=hbk.cell
         have froz_y:=hbk.frozen
         have lt_y:=hbk.lt
         have ht3:=hI3.t
         rw [htl] at ht3
         have hgl:=ht3.lt
         have fj:w31.cell? ⟨gt,j,none⟩=some (.int .i64 (st.2.getD j 0)):=ht3.cell (ints_get (by rw [List.getD_eq_getElem?_getD,List.getElem?_eq_getElem (show j < st.2.length by omega)]; rfl))
         have zj:=World.ownsRow.frozenAt ht3 j
         have HI3:=hid hI3
         have HT3:=hid ht3
         have HL3:=hid hL3
         clear b_31 q_31 HI HL hI3 hL3 hbk hg1 ht3 cell_x froz_x lt_x d0 d1 d2 ek fa
         go_upto_region 28 with fail
         refine wp_noteI HT3.out j (st.1.length:Int) ?_
         intro w32 r32 g32
         have hI4:=SimI.set_ HI3.out (j:=j) (v:=(st.1.length:Int)) (by rw [htl]; exact r32) g32
         have hL4:=HL3.out.grown g32 (row_apart HL3.out HT3.out (by decide))
         have hq4:=gr_blk g32 HQ.out (fun q hq=>by injection hq with hq; subst hq; exact HT3.out.not_blk HQ.out (by decide))
         obtain ⟨Gx,cgx,hbk,hle,hg1⟩:=hI4.b
         have cell_y:=hbk.cell
         have froz_y:=hbk.frozen
         have lt_y:=hbk.lt
         have cell_q:=hq4.cell
         have lt_q:=hq4.lt
         have HI4:=hid (And.intro hI4 (And.intro hL4 (And.intro hbk hg1)))
         have hsz4:=hI4.bl.size
         have hlb4:=hI4.lb
         clear hI4 hL4 hq4 hbk hg1 r32 g32 HI3 HT3 HL3 HQ fj zj froz_q
         go_wp2_with (at_builtin; refine wpList_appi rfl _ _ 38 rfl bc TG (.agg #[.int .i64 0,.int .i64 0,.int .i64 0]) 3 24 Tryz.underlying38 infoGt rfl (by decide) _ st.1.length _ rfl (HI4.out.2.2.2.alloc _) ⟨w32.heap.size,0,none⟩ 1 1 _ rfl rfl (many_new _ [_,_,_] _) (int3_one _ _ _) (by omega) (by decide) (by simp; omega) ?_)
         intro A' c' w5 h1 h2 _
         have h2:=grown_alloc h2
         obtain ⟨hb5,hB5,hS5⟩:=bld_put (T:=TS) (g:=⟨5,va,0⟩) (by decide) HI4.out.2.2.1 hle HI4.out.2.2.2 h1 h2
         have HF:=hid (And.intro (SimI.stay HI4.out.1 hB5 hS5) (hS5.row HI4.out.2.1 (by decide) (by decide)))
         have cell_5:=hb5.cell
         have froz_5:=hb5.frozen
         have lt_5:=hb5.lt
         clear h1 h2 hb5 hB5 hS5 HI4 cell_y froz_y lt_y cell_q lt_q
         go_wp2
         go_roundw
         case rel=>exact ⟨j + 1,by omega,by go_num,by rw [HS.out]; exact HF.out.1,HF.out.2⟩
         case measure=>simp [intOf]; omega
      ·obtain rfl:j=gs.length:=by omega
       obtain ⟨st,hst⟩:∃ c,prTo gs L gs.length=c:=⟨_,rfl⟩
       rw [hst] at hI HR
       have htl:=hok.tl
       rw [hst] at htl
       have HTL:=hid htl
       have HAT:=hid (show ∀ x:Nat,x < gs.length→st.2[x]? = some (st.2.getD x 0) from fun x hx=>by rw [List.getD_eq_getElem?_getD,List.getElem?_eq_getElem (by omega)]; rfl)
       have HI:=hid hI
       clear hI hok hst HT HV cell_x froz_x lt_x htl hl
       have cell_x:=HI.out.x.cell
       have lt_x:=HI.out.x.lt
       go_wp2_with fail
       clear cell_x lt_x
       go_loopw [13,135] (fun _ i wr=>∃ (m:Nat) (A:Option Addr) (kO:Nat),m≤os.length∧i=.int .i64 (m:Int)∧SimI w bc gt gs.length G gs.length cg O os.length co st.1 st.2 A kO (mapO st.2 (os.take m)) wr) (fun _ i _=>os.length - (intOf i).toNat)
       case atStart=>exact ⟨0,none,0,Nat.zero_le _,rfl,HI.out⟩
       case round =>
        clear HI
        obtain ⟨m,A,kO,hm2,rfl,hI⟩:=hrel
        have cell_x:=hI.x.cell
        have lt_x:=hI.x.lt
        by_cases hlt:m < os.length
        ·obtain ⟨x,hx⟩:∃ s,os[m]? = some s:=⟨_,List.getElem?_eq_getElem hlt⟩
         have hw:=wireB_iff.1 (HOV.out x (List.mem_of_getElem? hx))
         obtain ⟨mx,rfl⟩:=Int.eq_ofNat_of_zero_le hw.1
         have hA1:=HAT.out mx (by omega)
         obtain ⟨v,hv⟩:∃ v,st.2.getD mx 0=v:=⟨_,rfl⟩
         have hmo:mapO st.2 (os.take (m + 1))=mapO st.2 (os.take m) ++ [v]:=by
          obtain ⟨hl,e⟩:=List.getElem?_eq_some_iff.1 hx
          rw [List.take_succ_eq_append_getElem hl,e]
          simp only [mapO,List.map_append,List.map_cons,List.map_nil,Int.toNat_natCast,hv]
         have hml:(mapO st.2 (os.take m)).length=m:=by simp [mapO]; omega
         rw [hv] at hA1
         obtain ⟨bo,oo,rfl,hBo,e0⟩:=int_cells HO.out hI.bl hx
         have hbo:=hI.bl.size
         obtain ⟨outs,houts⟩:∃ c,mapO st.2 (os.take m)=c:=⟨_,rfl⟩
         rw [houts] at hI hmo hml
         have hml2:outs.length≤1000000:=by omega
         have hlt':(m:Int) < (os.length:Int):=by omega
         have htl:=HTL.out
         have hmx:(mx:Int) < (gs.length:Int):=by omega
         have m00:(0:Int)≤(m:Int):=by omega
         have mx0:(0:Int)≤(mx:Int):=by omega
         have f0:=hI.t.cell (ints_get hA1)
         have hgl:=hI.t.lt
         obtain ⟨Gx,cgx,hbk,_,hg1⟩:=hI.b
         have cell_y:=hbk.cell
         have froz_y:=hbk.frozen
         have lt_y:=hbk.lt
         have hlb:=hI.lb
         have hou:=hI.o
         have hne1:=hid (own_ne_obj hou hbk (by decide))
         have HI:=hid (And.intro hI (And.intro hbk hg1))
         have HMO:=hid (And.intro hmo hml)
         have hb1:outs.length + 1≤1000000 + 1:=by omega
         have hb1:outs.length + 1≤1000000:=by omega
         clear hI hx hmo hml houts hw hA1 hv htl hg1
         go_upto_region 33 with fail
         go_region_law (refine step_int_any (base:=bc) (L:=outs) rfl (.tmp 140) (.tmp 145) rfl (v:=Value.slice A outs.length kO) rfl ?_ ?_ [v] rfl rfl ?_ (by decide) hb1 ?_; (focus (exact ownBy)); (focus (first | omega | (simp; omega))); (focus (exact top_cells _ [_] _)); intro g' c' w5 ho5 hg5 hl5; have kx5:=gr_blk hg5 (b:=bc) (t:=TS) (cs:=#[.slice Gx st.1.length cgx,.slice A outs.length kO]) (by exact blkcBy2) hne1.out; have cell_5:=kx5.cell; have froz_5:=kx5.frozen; have lt_5:=kx5.lt)
         all_goals
          have h3':(Value.slice A outs.length kO).ownBlock=some g'∨wr.heap.size≤g':=by
           rcases hl5 with h | h
           ·exact .inl h
           ·refine .inr ?_
            (try simp at h)
            omega
          have HF:=hid (SimI.app HI.out.1 HI.out.2.1 HI.out.2.2 (by exact belBy) ho5 hg5 h3')
          clear ho5 hg5 hl5 kx5 cell_5 froz_5 lt_5 hou hbk h3' f0 e0 cell_x lt_x cell_y froz_y lt_y
          go_wp2
          go_roundw
          case rel=>exact ⟨m + 1,some ⟨g',0,none⟩,c',by omega,by go_num,by rw [HMO.out.1]; exact HF.out⟩
          case measure=>simp [intOf]; omega
        ·obtain rfl:m=os.length:=by omega
         have hcu:mapO st.2 (os.take os.length)=mapO st.2 os:=by rw [List.take_length]
         rw [hcu] at hI
         obtain ⟨Gx,cgx,hbk,_,hg1⟩:=hI.b
         have cell_y:=hbk.cell
         have froz_y:=hbk.frozen
         have lt_y:=hbk.lt
         have cell_r:=hI.r.cell
         have froz_r:=hI.r.frozen
         have lt_r:=hI.r.lt
         have hlb:=hI.lb
         have hne:bc≠w.heap.size + 1:=by omega
         have hne2:w.heap.size + 1≠bc:=by omega
         have HI:=hid (And.intro hI (And.intro hbk hg1))
         have hmo:(mapO st.2 os).length=os.length:=by simp [mapO]
         clear hI hbk hg1 hcu hmo
         go_wp2
         ((try simp only [Exit.inBlock,Exit.then]); apply bodyPost_ret0; focus ((try simp only [results,Tryz.results103]); (try go_simp); (try rfl)))
         rw [HR.out]
         exact give_k HI.out.1.r (own_weak HI.out.2.2 (by omega)) (own_weak HI.out.1.o (by omega)) HI.out.1.bl (by omega) (by exact tchBy)
    | succ k =>
     obtain rfl:x=(k:Int):=by omega
     clear hxk
     obtain ⟨⟨q,a,b⟩,hg⟩:∃ s,gs[k]? = some s:=⟨_,List.getElem?_eq_getElem (by omega)⟩
     have hgv:=gatesB_at HV.out hg
     rw [Nat.zero_add] at hgv
     have egd:gs.getD k ⟨0,0,0⟩=⟨q,a,b⟩:=by rw [List.getD_eq_getElem?_getD,hg]; rfl
     obtain ⟨bg,og,rfl,hBg,d0,d1,d2⟩:=gt_cells HG.out hI.bl hg
     have hbg:=hI.bl.size
     have hlt':(k:Int) < (gs.length:Int):=by omega
     have k00:(0:Int)≤(k:Int):=by omega
     have hwk:IntKind.i64.wrap ((k:Int) - 1)=(k:Int) - 1:=IntWalk.i64_in _ (by omega)
     rw [liveTo] at hlt2
     have hlt2:=hlt2.symm
     have hgl0:=hI.b.lt
     have hlg:=hI.lg
     have HI:=hid hI
     clear hI
     have b_30:=(Below.refl wr.heap.size wr)
     have s_30:=b_30.size
     go_upto_region 13 with fail
     refine wp_forget1 (w0:=wr) (B:=wr.heap.size) (b0:=wr.heap.size) (t0:=96) (c0:=#[.int .i64 q,.int .i64 a,.int .i64 b]) ?_ ?_ ?_
     (focus exact blkcBy2)
     (focus (exact belBy))
     intro w31 q_31 hX31
     have sX31:=hX31.size
     have q_lt:=q_31.lt
     have b_31:=b_30.trans (hX31.mono (by omega))
     clear b_30 hX31
     have cell_q:=q_31.cell
     have froz_q:=q_31.frozen
     have lt_q:=q_31.lt
     have hr31:=HI.out.b.below b_31
     have HX31:=hid (HI.out.below b_31)
     have HQ31:=hid q_31
     have z31:=b_31.size
     have hg31:=hr31.lt
     obtain ⟨lv,hlv⟩:∃ v,L.getD k false=v:=⟨_,rfl⟩
     have ek:w31.cell? ⟨gb,k,none⟩=some (.bool lv):=hr31.cell (bools_get (by rw [getD_some (L:=L) (i:=k) (by omega),hlv]))
     have fk:=World.ownsRow.frozenAt hr31 k
     clear b_31 q_31 HI hg cell_x d0 d1 d2
     cases lv
     ·have hst:liveS gs L k=L:=by unfold liveS; rw [if_neg (by rw [hlv]; simp)]
      have HLT:=hid (hlt2.trans (by rw [hst]):liveG gs os=liveTo gs L k)
      clear hst hlt2 hr31 hgv
      go_wp2
      go_roundw
      case rel=>exact ⟨k,(k:Int) - 1,L,by omega,rfl,by go_num,hll,HLT.out.symm,HX31.out⟩
      case measure=>first | (simp [intOf]; done) | (simp [intOf]; omega)
     ·have hls:liveS gs L k=liveP ⟨q,a,b⟩ L:=by unfold liveS; rw [if_pos hlv,egd]
      rcases gate_kind hgv with hk2 | hk2 | hk2 | hk2 | hk2
      ·obtain rfl:q=1:=hk2
       have hst:liveS gs L k=L:=by rw [hls]; rfl
       have HLT:=hid (hlt2.trans (by rw [hst]):liveG gs os=liveTo gs (L) k)
       clear hst hls hlt2 hgv
       clear hr31
       go_wp2
       go_roundw
       case rel=>exact ⟨k,(k:Int) - 1,L,by omega,rfl,by go_num,hll,HLT.out.symm,HX31.out⟩
       case measure=>first | (simp [intOf]; done) | (simp [intOf]; omega)
      ·obtain rfl:q=2:=hk2
       have hst:liveS gs L k=L:=by rw [hls]; rfl
       have HLT:=hid (hlt2.trans (by rw [hst]):liveG gs os=liveTo gs (L) k)
       clear hst hls hlt2 hgv
       clear hr31
       go_wp2
       go_roundw
       case rel=>exact ⟨k,(k:Int) - 1,L,by omega,rfl,by go_num,hll,HLT.out.symm,HX31.out⟩
       case measure=>first | (simp [intOf]; done) | (simp [intOf]; omega)
      ·obtain rfl:q=3:=hk2
       have hab:=gate_is34 hgv (.inl rfl)
       dsimp only at hab
       obtain ⟨a,rfl⟩:=Int.eq_ofNat_of_zero_le hab.1.1
       obtain ⟨b,rfl⟩:=Int.eq_ofNat_of_zero_le hab.2.1
       have hst:liveS gs L k=((L.set a true).set b true):=by rw [hls]; rfl
       have HLT:=hid (hlt2.trans (by rw [hst]):liveG gs os=liveTo gs ((L.set a true).set b true) k)
       clear hst hls hlt2 hgv
       have fa:=hr31.cell (bools_get (getD_some (L:=L) (i:=a) (by omega)))
       have za:=World.ownsRow.frozenAt hr31 a
       have ha':(a:Int) < (gs.length:Int):=by omega
       have HR31:=hid hr31
       clear hr31
       go_upto_region 15 with fail
       clear fa za ek fk
       refine wp_mark HR31.out a true ?_
       intro w32 r32 g32
       have hx32:=HX31.out.mark r32 g32
       have hq32:=HQ31.out.grown g32 (fun e=>by injection e with e; omega)
       have cell_q2:=hq32.cell
       have lt_q2:=hq32.lt
       have hg32:=r32.lt
       have fb:=r32.cell (bools_get (getD_some (L:=L.set a true) (i:=b) (by rw [List.length_set]; omega)))
       have zb:=World.ownsRow.frozenAt r32 b
       have hb':(b:Int) < (gs.length:Int):=by omega
       obtain ⟨s1,s2⟩:=r32.set_ b true
       have HN:=hid (hx32.mark s1 s2)
       clear s1 s2
       clear r32 g32 hx32 hq32 cell_q
       go_wp2
       go_roundw
       case rel=>exact ⟨k,(k:Int) - 1,((L.set a true).set b true),by omega,rfl,by go_num,by simp [hll],HLT.out.symm,HN.out⟩
       case measure=>first | (simp [intOf]; done) | (simp [intOf]; omega)
      ·obtain rfl:q=4:=hk2
       have hab:=gate_is34 hgv (.inr rfl)
       dsimp only at hab
       obtain ⟨a,rfl⟩:=Int.eq_ofNat_of_zero_le hab.1.1
       obtain ⟨b,rfl⟩:=Int.eq_ofNat_of_zero_le hab.2.1
       have hst:liveS gs L k=((L.set a true).set b true):=by rw [hls]; rfl
       have HLT:=hid (hlt2.trans (by rw [hst]):liveG gs os=liveTo gs ((L.set a true).set b true) k)
       clear hst hls hlt2 hgv
       have fa:=hr31.cell (bools_get (getD_some (L:=L) (i:=a) (by omega)))
       have za:=World.ownsRow.frozenAt hr31 a
       have ha':(a:Int) < (gs.length:Int):=by omega
       have HR31:=hid hr31
       clear hr31
       go_upto_region 15 with fail
       clear fa za ek fk
       refine wp_mark HR31.out a true ?_
       intro w32 r32 g32
       have hx32:=HX31.out.mark r32 g32
       have hq32:=HQ31.out.grown g32 (fun e=>by injection e with e; omega)
       have cell_q2:=hq32.cell
       have lt_q2:=hq32.lt
       have hg32:=r32.lt
       have fb:=r32.cell (bools_get (getD_some (L:=L.set a true) (i:=b) (by rw [List.length_set]; omega)))
       have zb:=World.ownsRow.frozenAt r32 b
       have hb':(b:Int) < (gs.length:Int):=by omega
       obtain ⟨s1,s2⟩:=r32.set_ b true
       have HN:=hid (hx32.mark s1 s2)
       clear s1 s2
       clear r32 g32 hx32 hq32 cell_q
       go_wp2
       go_roundw
       case rel=>exact ⟨k,(k:Int) - 1,((L.set a true).set b true),by omega,rfl,by go_num,by simp [hll],HLT.out.symm,HN.out⟩
       case measure=>first | (simp [intOf]; done) | (simp [intOf]; omega)
      ·obtain rfl:q=5:=hk2
       have hab:=gate_is5 hgv rfl
       dsimp only at hab
       obtain ⟨hab,hb0⟩:=hab
       subst hb0
       obtain ⟨a,rfl⟩:=Int.eq_ofNat_of_zero_le hab.1
       have hst:liveS gs L k=(L.set a true):=by rw [hls]; rfl
       have HLT:=hid (hlt2.trans (by rw [hst]):liveG gs os=liveTo gs (L.set a true) k)
       clear hst hls hlt2 hgv
       have fa:=hr31.cell (bools_get (getD_some (L:=L) (i:=a) (by omega)))
       have za:=World.ownsRow.frozenAt hr31 a
       have ha':(a:Int) < (gs.length:Int):=by omega
       have HR31:=hid hr31
       clear hr31
       go_upto_region 15 with fail
       clear fa za ek fk
       refine wp_mark HR31.out a true ?_
       intro w32 r32 g32
       have hx32:=HX31.out.mark r32 g32
       have hq32:=HQ31.out.grown g32 (fun e=>by injection e with e; omega)
       have cell_q2:=hq32.cell
       have lt_q2:=hq32.lt
       have hg32:=r32.lt
       have HN:=hid hx32
       clear r32 g32 hx32 hq32 cell_q
       go_wp2
       go_roundw
       case rel=>exact ⟨k,(k:Int) - 1,(L.set a true),by omega,rfl,by go_num,by simp [hll],HLT.out.symm,HN.out⟩
       case measure=>first | (simp [intOf]; done) | (simp [intOf]; omega)
open Go.RowKit
theorem simp_outs (gs:List Gt) (os:List Int):(simpC gs os).2.length=os.length:=by
 unfold simpC
 split
 ·simp [mapO]
 ·rfl
theorem prun_outs (gs:List Gt) (os:List Int):(prunC gs os).2.length=os.length:=by
 unfold prunC
 split
 ·simp [mapO]
 ·rfl
def cntG (gs:List Gt) (k:Int):Nat:=(gs.filter (fun g=>g.k == k)).length
theorem cntG_le (gs:List Gt) (k:Int):cntG gs k≤gs.length:=List.length_filter_le _ _
theorem cntG_at {gs:List Gt} {k:Int} {j:Nat} {g:Gt} (h:gs[j]? = some g):cntG (gs.take (j + 1)) k=cntG (gs.take j) k + (if (g.k == k)=true then 1 else 0):=by
 obtain ⟨hl,e⟩:=List.getElem?_eq_some_iff.1 h
 unfold cntG
 rw [List.take_succ_eq_append_getElem hl,List.filter_append,List.length_append,e]
 cases hk:(g.k == k) <;> simp [List.filter,hk]
theorem comp_outs (L:List St):(compL L).o.length≤1000000:=by
 unfold compL
 split
 ·have h:=(comp_ok L).oh
  have h2:=unrL_len L
  omega
 ·exact Nat.zero_le _
set_option linter.unusedVariables false in
set_option maxRecDepth 100000 in
set_option maxHeartbeats 3200000 in
theorem iOptimize (G O:Option Addr) (cg co:Nat) (gs:List Gt) (os:List Int) (w:World) (hg:Cells w w.heap.size G (ints (flatG gs))) (ho:Cells w w.heap.size O (ints os)) (hok:circB gs os=true) (hm:os.length≤1000000) :
  Calls Tryz.prog 49 #[.agg #[.slice G gs.length cg,.slice O os.length co]] w (GivesK w (optC gs os).1 (optC gs os).2):=by
 have H1:=hid (fun w hg ho=>iSimplify G O cg co gs os w hg ho hok hm)
 have hs:=simp_valid hok
 have hl:(simpC gs os).2.length=os.length:=simp_outs gs os
 have H2:=hid (fun G O cg co w hg ho=>iPrune G O cg co (simpC gs os).1 (simpC gs os).2 w hg ho hs (by omega))
 rw [show optC gs os=prunC (simpC gs os).1 (simpC gs os).2 from rfl]
 have HG:=hid hg
 have HO:=hid ho
 obtain ⟨R,hR⟩:∃ k,prunC (simpC gs os).1 (simpC gs os).2=k:=⟨_,rfl⟩
 rw [hR] at H2 ⊢
 obtain ⟨K,hK⟩:∃ k,simpC gs os=k:=⟨_,rfl⟩
 rw [hK] at H1 H2
 clear hs hl hg ho hok hR hK
 go_enter Tryz.func49,Tryz.ntmps49
 have b_0:=(Below.refl w.heap.size w)
 have s_0:=b_0.size
 go_upto_region 1 with fail
 refine wp_forget2 (w0:=w) (B:=w.heap.size) (b0:=w.heap.size) (t0:=40) (c0:=#[.slice G gs.length cg,.slice O os.length co]) (b1:=w.heap.size + 1) (t1:=40) (c1:=#[.slice none 0 0,.slice none 0 0]) ?_ ?_ ?_ ?_
 (focus exact blkcBy2)
 (focus exact blkcBy2)
 (focus (exact belBy))
 intro w1 x_1 r_1 hX1
 have sX1:=hX1.size
 have x_lt:=x_1.lt
 have r_lt:=r_1.lt
 have b_1:=b_0.trans (hX1.mono (by omega))
 clear b_0 hX1
 have cell_x:=x_1.cell
 have froz_x:=x_1.frozen
 have lt_x:=x_1.lt
 have cell_r:=r_1.cell
 have froz_r:=r_1.frozen
 have lt_r:=r_1.lt
 have H0:=hid (And.intro r_1 b_1)
 have z1:=b_1.size
 have hrl:=r_1.lt
 have hg1:=(HG.out.below b_1).more (B':=w1.heap.size) (by omega)
 have ho1:=(HO.out.below b_1).more (B':=w1.heap.size) (by omega)
 have HGO:=hid (And.intro hg1 ho1)
 clear x_1 r_1 b_1 cell_r froz_r lt_r froz_x hg1 ho1
 go_wp2_with fail
 refine Calls.mono (H1.out _ HGO.out.1 HGO.out.2) ?_
 rintro e w2 ⟨G2,cg2,O2,co2,rfl,h1,h2,hb⟩
 have HB2:=hid (And.intro (H0.out.1.past hb) (H0.out.2.trans (hb.mono z1)))
 have HC2:=hid (And.intro (Cells.of_own h1) (Cells.of_own h2))
 have z2:=hb.size
 clear h1 h2 hb cell_x lt_x H0 HGO
 go_wp2_with fail
 refine Calls.mono (H2.out _ _ _ _ _ HC2.out.1 HC2.out.2) ?_
 rintro e w3 ⟨G3,cg3,O3,co3,rfl,h1,h2,hb⟩
 have hr3:=HB2.out.1.past hb
 have z3:=hb.size
 have hb3:=HB2.out.2.trans (hb.mono (by omega))
 have HF:=hid (And.intro hr3 (And.intro h1 (And.intro h2 hb3)))
 have cell_r:=hr3.cell
 have froz_r:=hr3.frozen
 have lt_r:=hr3.lt
 clear h1 h2 hb hr3 hb3 HB2 HC2
 go_wp2
 ((try simp only [Exit.inBlock,Exit.then]); apply bodyPost_ret0; focus ((try simp only [results,Tryz.results49]); (try go_simp); (try rfl)))
 exact give_k HF.out.1 (own_weak HF.out.2.1 (by omega)) (own_weak HF.out.2.2.1 (by omega)) HF.out.2.2.2 (by omega) (by exact tchBy)
set_option linter.unusedVariables false in
set_option maxRecDepth 100000 in
set_option maxHeartbeats 3200000 in
theorem iCount (G O:Option Addr) (cg co:Nat) (gs:List Gt) (os:List Int) (k:Int) (w:World) (hg:Cells w w.heap.size G (ints (flatG gs))) (hn:gs.length≤1000000) :
  Calls Tryz.prog 173 #[.agg #[.slice G gs.length cg,.slice O os.length co],.int .i64 k] w fun e w'=>e=.returned (.int .i64 (cntG gs k:Int))∧Below w.heap.size w w':=by
 have HG:=hid hg
 clear hg
 go_enter Tryz.func173,Tryz.ntmps173
 have b_0:=(Below.refl w.heap.size w)
 have s_0:=b_0.size
 go_upto_region 2 with fail
 refine wp_forget1 (w0:=w) (B:=w.heap.size) (b0:=w.heap.size) (t0:=40) (c0:=#[.slice G gs.length cg,.slice O os.length co]) ?_ ?_ ?_
 (focus exact blkcBy2)
 (focus (exact belBy))
 intro w1 x_1 hX1
 have sX1:=hX1.size
 have x_lt:=x_1.lt
 have b_1:=b_0.trans (hX1.mono (by omega))
 clear b_0 hX1
 have cell_x:=x_1.cell
 have froz_x:=x_1.frozen
 have lt_x:=x_1.lt
 have H0:=hid (And.intro x_1 b_1)
 have z1:=b_1.size
 clear x_1 b_1
 go_wp2_with fail
 go_loopw [5,7,11] (fun c _ i wr=>∃ j:Nat,j≤gs.length∧i=.int .i64 (j:Int)∧c=.int .i64 (cntG (gs.take j) k:Int)∧Blk wr w.heap.size TS #[.slice G gs.length cg,.slice O os.length co]∧Below w.heap.size w wr) (fun _ _ i _=>gs.length - (intOf i).toNat)
 case atStart=>exact ⟨0,Nat.zero_le _,rfl,rfl,H0.out.1,H0.out.2⟩
 case round =>
  clear H0
  obtain ⟨j,hj,rfl,rfl,hx,hb⟩:=hrel
  have cell_x:=hx.cell
  have lt_x:=hx.lt
  by_cases hlt:j < gs.length
  ·obtain ⟨⟨q,a,b⟩,hgj⟩:∃ s,gs[j]? = some s:=⟨_,List.getElem?_eq_getElem hlt⟩
   obtain ⟨bg,og,rfl,hBg,d0,d1,d2⟩:=gt_cells HG.out hb hgj
   have hbg:=hb.size
   have hc:=cntG_at (k:=k) hgj
   have hcl:=cntG_le (gs.take j) k
   have htl:(gs.take j).length≤gs.length:=by rw [List.length_take]; omega
   have hlt':(j:Int) < (gs.length:Int):=by omega
   have j00:(0:Int)≤(j:Int):=by omega
   obtain ⟨c,hcn⟩:∃ c,cntG (gs.take j) k=c:=⟨_,rfl⟩
   rw [hcn] at hc hcl ⊢
   obtain ⟨v,hv⟩:∃ v,(q == k)=v:=⟨_,rfl⟩
   dsimp only at hc
   rw [hv] at hc
   have HC:=hid hc
   have HN:=hid (And.intro hx hb)
   have hc9:c≤1000000:=by omega
   clear hgj hc hcl htl hcn hx hb
   cases v
   all_goals
    go_wp2
    go_roundw
    case rel=>exact ⟨j + 1,by omega,by go_num,by rw [HC.out]; first | rfl | (simp; done) | (congr 1),HN.out.1.past (by exact belBy),HN.out.2.trans (Below.mono (by exact belBy) hbg)⟩
    case measure=>simp [intOf]; omega
  ·obtain rfl:j=gs.length:=by omega
   have HN:=hid hb
   clear hx hb
   rw [List.take_length]
   go_wp2
   go_ret
   exact ⟨rfl,HN.out⟩
set_option linter.unusedVariables false in
set_option maxRecDepth 100000 in
set_option maxHeartbeats 3200000 in
theorem sOptimize (G O:Option Addr) (cg co:Nat) (gs:List Gt) (os:List Int) (w:World) (hg:Cells w w.heap.size G (ints (flatG gs))) (ho:Cells w w.heap.size O (ints os)) (hok:circB gs os=true) (hm:os.length≤1000000) :
  Calls Tryz.prog 19 #[.agg #[.slice G gs.length cg,.slice O os.length co]] w (GivesK w (optC gs os).1 (optC gs os).2):=by
 have H1:=hid (fun w hg ho=>sSimplify G O cg co gs os w hg ho hok hm)
 have hs:=simp_valid hok
 have hl:(simpC gs os).2.length=os.length:=simp_outs gs os
 have H2:=hid (fun G O cg co w hg ho=>sPrune G O cg co (simpC gs os).1 (simpC gs os).2 w hg ho hs (by omega))
 rw [show optC gs os=prunC (simpC gs os).1 (simpC gs os).2 from rfl]
 have HG:=hid hg
 have HO:=hid ho
 obtain ⟨R,hR⟩:∃ k,prunC (simpC gs os).1 (simpC gs os).2=k:=⟨_,rfl⟩
 rw [hR] at H2 ⊢
 obtain ⟨K,hK⟩:∃ k,simpC gs os=k:=⟨_,rfl⟩
 rw [hK] at H1 H2
 clear hs hl hg ho hok hR hK
 go_enter Tryz.func19,Tryz.ntmps19
 have b_0:=(Below.refl w.heap.size w)
 have s_0:=b_0.size
 go_upto_region 1 with fail
 refine wp_forget2 (w0:=w) (B:=w.heap.size) (b0:=w.heap.size) (t0:=40) (c0:=#[.slice G gs.length cg,.slice O os.length co]) (b1:=w.heap.size + 1) (t1:=40) (c1:=#[.slice none 0 0,.slice none 0 0]) ?_ ?_ ?_ ?_
 (focus exact blkcBy2)
 (focus exact blkcBy2)
 (focus (exact belBy))
 intro w1 x_1 r_1 hX1
 have sX1:=hX1.size
 have x_lt:=x_1.lt
 have r_lt:=r_1.lt
 have b_1:=b_0.trans (hX1.mono (by omega))
 clear b_0 hX1
 have cell_x:=x_1.cell
 have froz_x:=x_1.frozen
 have lt_x:=x_1.lt
 have cell_r:=r_1.cell
 have froz_r:=r_1.frozen
 have lt_r:=r_1.lt
 have H0:=hid (And.intro r_1 b_1)
 have z1:=b_1.size
 have hrl:=r_1.lt
 have hg1:=(HG.out.below b_1).more (B':=w1.heap.size) (by omega)
 have ho1:=(HO.out.below b_1).more (B':=w1.heap.size) (by omega)
 have HGO:=hid (And.intro hg1 ho1)
 clear x_1 r_1 b_1 cell_r froz_r lt_r froz_x hg1 ho1
 go_wp2_with fail
 refine Calls.mono (H1.out _ HGO.out.1 HGO.out.2) ?_
 rintro e w2 ⟨G2,cg2,O2,co2,rfl,h1,h2,hb⟩
 have HB2:=hid (And.intro (H0.out.1.past hb) (H0.out.2.trans (hb.mono z1)))
 have HC2:=hid (And.intro (Cells.of_own h1) (Cells.of_own h2))
 have z2:=hb.size
 clear h1 h2 hb cell_x lt_x H0 HGO
 go_wp2_with fail
 refine Calls.mono (H2.out _ _ _ _ _ HC2.out.1 HC2.out.2) ?_
 rintro e w3 ⟨G3,cg3,O3,co3,rfl,h1,h2,hb⟩
 have hr3:=HB2.out.1.past hb
 have z3:=hb.size
 have hb3:=HB2.out.2.trans (hb.mono (by omega))
 have HF:=hid (And.intro hr3 (And.intro h1 (And.intro h2 hb3)))
 have cell_r:=hr3.cell
 have froz_r:=hr3.frozen
 have lt_r:=hr3.lt
 clear h1 h2 hb hr3 hb3 HB2 HC2
 go_wp2
 ((try simp only [Exit.inBlock,Exit.then]); apply bodyPost_ret0; focus ((try simp only [results,Tryz.results19]); (try go_simp); (try rfl)))
 exact give_k HF.out.1 (own_weak HF.out.2.1 (by omega)) (own_weak HF.out.2.2.1 (by omega)) HF.out.2.2.2 (by omega) (by exact tchBy)
end Go.Proofs.YtihbaieiempjeaaGreat
