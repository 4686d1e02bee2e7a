/- Lemmas of the proof: DecI, Wds, WdsW, SecX, SecI, Loopless, TopM. -/
import Derived.Test.YtihbaieiempjeaaGreatC0
import Derived.Test.YtihbaieiempjeaaGreatC21
import Derived.Test.YtihbaieiempjeaaGreatC17
import Derived.Test.YtihbaieiempjeaaGreatC13
import Derived.Test.YtihbaieiempjeaaGreatC1
import Derived.Test.YtihbaieiempjeaaGreatC18
import Derived.Test.YtihbaieiempjeaaGreatC7
import Derived.Test.YtihbaieiempjeaaGreatC20
import Derived.Test.YtihbaieiempjeaaGreatC6
import Derived.Test.YtihbaieiempjeaaGreatC3
import Derived.Test.YtihbaieiempjeaaGreatHead
namespace Go.Proofs.YtihbaieiempjeaaGreat
open Go.RowKit
theorem decO_length (ws ds os:List Int):(decO ws ds os).length=os.length:=by simp [decO]
theorem decO_get {ws ds os:List Int} {j:Nat} {x:Int} (h:os[j]? = some x):(decO ws ds os)[j]? = some (xorI (oneI (ws.getD x.toNat 0)) (ds.getD j 0)):=by
 unfold decO
 rw [List.getElem?_mapIdx,h]
 rfl
set_option linter.unusedVariables false in
set_option maxRecDepth 100000 in
set_option maxHeartbeats 6400000 in
theorem iDecode (G O T K D L:Option Addr) (cg co ct ck cd cl:Nat) (gs:List Gt) (os ts cs ds ws:List Int) (w:World) (hg:Cells w w.heap.size G (ints (flatG gs))) (ho:Cells w w.heap.size O (ints os)) (ht:Cells w w.heap.size T (ints ts)) (hc:Cells w w.heap.size K (ints cs)) (hd:Cells w w.heap.size D (ints ds)) (hl:Cells w w.heap.size L (ints ws)) (h:PubOk gs os ts cs ds) (hll:∀ x∈ws,labelB x=true) (hln:ws.length=gs.length) :
  Calls Tryz.prog 53 #[.agg #[.slice G gs.length cg,.slice O os.length co],.agg #[.slice T ts.length ct,.slice K cs.length ck,.slice D ds.length cd],.slice L ws.length cl] w (GivesR w (decO ws ds os)):=by
 obtain ⟨hn6,hgv,hov⟩:=circ_parts h.c
 have HC:=hid (And.intro hg (And.intro ho (And.intro ht (And.intro hc (And.intro hd hl)))))
 have HK:=hid (fun w hg ho ht hc hd=>iPublicOk G O T K D cg co ct ck cd gs os ts cs ds w hg ho ht hc hd h)
 have HV:=hid hov
 have hm:=h.m
 have hdn:=Nat.le_of_eq h.dn.symm
 have hln2:=Nat.le_of_eq hln.symm
 have HLB:=hid (fun w hc=>iLabels L cl ws w (fun j x hx=>hll x (List.mem_of_getElem? hx)) hc (by omega))
 have e8:((ws.length:Int) != (gs.length:Int))=false:=by rw [hln]; simp
 rw [show GivesR w (decO ws ds os)=fun e w'=>∃ A c,e=.returned (.tuple #[.slice A os.length c,.bool true])∧w'.ownsRow w.heap.size 3 1 (.slice A os.length c) os.length (ints (decO ws ds os))∧Below w.heap.size w w' by unfold GivesR; rw [decO_length]]
 clear hg ho ht hc hd hl h hgv hov hll hln
 go_enter Tryz.func53,Tryz.ntmps53
 go_upto_region 1 with fail
 apply wp_forget2 (b0:=w.heap.size) (b1:=w.heap.size + 1) (w0:=w) (B:=w.heap.size)
 focus (exact blkBy)
 focus (exact blkBy)
 focus (exact belBy)
 intro W1 k0 k1 hbW
 have c0:=k0.cell
 have f0:=k0.frozen
 have z0:=k0.lt
 have c1:=k1.cell
 have f1:=k1.frozen
 have z1:=k1.lt
 have hbs:=hbW.size
 have HCW:=hid (And.intro ((HC.out.1.below hbW).more hbW.size) (And.intro ((HC.out.2.1.below hbW).more hbW.size) (And.intro ((HC.out.2.2.1.below hbW).more hbW.size) (And.intro ((HC.out.2.2.2.1.below hbW).more hbW.size) (And.intro ((HC.out.2.2.2.2.1.below hbW).more hbW.size) ((HC.out.2.2.2.2.2.below hbW).more hbW.size))))))
 go_wp2_with fail
 refine Calls.mono (HK.out _ HCW.out.1 HCW.out.2.1 HCW.out.2.2.1 HCW.out.2.2.2.1 HCW.out.2.2.2.2.1) ?_
 rintro e w1 ⟨rfl,hb1⟩
 have hz10:=hb1.size
 have k1a:=k0.past hb1
 have k1b:=k1.past hb1
 clear c0 f0 z0 c1 f1 z1
 have c0:=k1a.cell
 have f0:=k1a.frozen
 have z0:=k1a.lt
 have c1:=k1b.cell
 have f1:=k1b.frozen
 have z1:=k1b.lt
 go_wp2_with fail
 refine Calls.mono (HLB.out _ ((HCW.out.2.2.2.2.2.below hb1).more hz10)) ?_
 rintro e w' ⟨rfl,rfl⟩
 have HU:=hid (And.intro k1a (And.intro k1b (hbW.trans (hb1.mono hbW.size))))
 clear HCW HK HLB k0 k1 k1a k1b f0 c1 f1 z1
 have hz1:=HU.out.2.2.size
 go_wp2_with fail
 go_loopw [8,9,10,32] (fun o _ _ i wr=>∃ (j k':Nat) (A':Option Addr),j≤os.length∧i=.int .i64 (j:Int)∧o=.slice A' j k'∧wr.ownsRow w.heap.size 3 1 (.slice A' j k') j (ints ((decO ws ds os).take j))∧Blk wr w.heap.size TS #[.slice G gs.length cg,.slice O os.length co]∧Blk wr (w.heap.size + 1) TPb #[.slice T ts.length ct,.slice K cs.length ck,.slice D ds.length cd]∧Below w.heap.size w wr) (fun _ _ _ i _=>os.length - (intOf i).toNat)
 case atStart=>exact ⟨0,0,some ⟨w1.heap.size,0,none⟩,Nat.zero_le _,rfl,rfl,own_lit (size:=1) #[] 0 rfl (by omega) (Nat.zero_le _) rfl,HU.out.1.alloc _,HU.out.2.1.alloc _,HU.out.2.2.alloc (by omega) _⟩
 case round =>
  obtain ⟨j,k',A',hj,rfl,rfl,hown,hx0,hp0,hbw⟩:=hrel
  have zw:=hbw.size
  have cell_x:=hx0.cell
  have lt_x:=hx0.lt
  by_cases hlt:j < os.length
  ·obtain ⟨x,hx⟩:∃ s,os[j]? = some s:=⟨_,List.getElem?_eq_getElem hlt⟩
   have hxw:=wireB_iff.1 (outs_wire HV.out x (List.mem_of_getElem? hx))
   obtain ⟨x,rfl⟩:=Int.eq_ofNat_of_zero_le hxw.1
   have hst:=take_snoc (decO_get (ws:=ws) (ds:=ds) hx)
   have hbt:=hbw
   obtain ⟨bo,oo,rfl,hBo,hco⟩:=Cells.at_ (HC.out.2.1.below hbt) (ints_get hx)
   have d0:=hco _ _ (ints_get hx)
   have hwx:ws[x]? = some (ws.getD x 0):=by rw [List.getD_eq_getElem?_getD,List.getElem?_eq_getElem (by omega)]; rfl
   have hdj:ds[j]? = some (ds.getD j 0):=by rw [List.getD_eq_getElem?_getD,List.getElem?_eq_getElem (by omega)]; rfl
   obtain ⟨bw,ow,rfl,hBw,hcw⟩:=Cells.at_ (HC.out.2.2.2.2.2.below hbt) (ints_get hwx)
   obtain ⟨bd,od,rfl,hBd,hcd⟩:=Cells.at_ (HC.out.2.2.2.2.1.below hbt) (ints_get hdj)
   have d1:=hcw _ _ (ints_get hwx)
   have d2:=hcd _ _ (ints_get hdj)
   obtain ⟨zx,ex⟩:∃ z,ws.getD x 0=z:=⟨_,rfl⟩
   obtain ⟨dj,ed⟩:∃ z,ds.getD j 0=z:=⟨_,rfl⟩
   have hxn:((x:Nat):Int).toNat=x:=by omega
   rw [hxn,ex,ed] at hst
   rw [ex] at d1
   rw [ed] at d2
   have hlt':(j:Int) < (os.length:Int):=by omega
   have hld:(j:Int) < (ds.length:Int):=by omega
   have hlw:(x:Int) < (ws.length:Int):=by omega
   have j00:(0:Int)≤(j:Int):=by omega
   have x00:(0:Int)≤(x:Int):=by omega
   have hb1:j + 1≤1000000:=by omega
   obtain ⟨xs,hxs⟩:∃ c,(decO ws ds os).take j=c:=⟨_,rfl⟩
   rw [hxs] at hst hown
   have HST:=hid hst
   have cell_p:=hp0.cell
   have lt_p:=hp0.lt
   clear hst hx hxw hbt hco hcw hcd hwx hdj ex ed hxs hxn
   go_upto_region 7 with fail
   go_region_law (refine step_int_any (base:=w.heap.size) (L:=xs) rfl (.tmp 37) (.tmp 49) rfl (v:=Value.slice A' j k') rfl ?_ ?_ [bits .xor .i64 (bits .and .i64 zx 1) dj] rfl rfl ?_ (by decide) hb1 ?_; (focus (exact ownBy)); (focus (first | omega | (simp; omega))); (focus (exact top_cells _ [_] _)); intro g' c5 w5 ho5 hg5 hl5; have hg6:=hg5)
   all_goals
    have hgg:=below_grown (w:=wr) (by exact belBy) hg5
    have HF:=hid (And.intro ho5 (And.intro (gr_blk hgg hx0 (own_ne_obj hown hx0 (by decide))) (And.intro (gr_blk hgg hp0 (own_ne_obj hown hp0 (by decide))) (gr_below hgg hbw (by omega) (fun p hp=>by have:=(own_in hown p hp).1; omega)))))
    clear ho5 hg5 hl5 hg6 hgg hown hx0 hp0 hbw d0 d1 d2 cell_x lt_x cell_p lt_p
    go_wp2
    go_roundw
    case rel=>exact ⟨j + 1,c5,some ⟨g',0,none⟩,by omega,by go_num,rfl,by rw [HST.out]; exact HF.out.1,HF.out.2.1,HF.out.2.2.1,HF.out.2.2.2⟩
    case measure=>simp [intOf]; omega
  ·obtain rfl:j=os.length:=by omega
   rw [←decO_length ws ds os,List.take_length] at hown
   have HI:=hid (And.intro hown hbw)
   clear hown hbw hp0 hx0
   go_wp2
   ((try simp only [Exit.inBlock,Exit.then]); apply bodyPost_ret0; focus ((try simp only [results,Tryz.results53]); (try go_simp); (try rfl)))
   have h:=HI.out.1
   rw [decO_length] at h
   exact ⟨A',k',rfl,h,HI.out.2⟩
open Go.RowKit
theorem wordsL_take {xs:List Int} {k:Nat} (h:4 * k + 4≤xs.length):wordsL (xs.take (4 * k + 4))=wordsL (xs.take (4 * k)) ++ [xs.getD (4 * k) 0 + 2 * xs.getD (4 * k + 1) 0 + 4 * xs.getD (4 * k + 2) 0 + 8 * xs.getD (4 * k + 3) 0]:=by
 have hg:∀ j,j < xs.length→xs[j]? = some (xs.getD j 0):=fun j hj=>by rw [List.getD_eq_getElem?_getD,List.getElem?_eq_getElem hj]; rfl
 have ht:∀ j,j < xs.length→xs.take (j + 1)=xs.take j ++ [xs.getD j 0]:=fun j hj=>take_snoc (hg j hj)
 rw [show 4 * k + 4=4 * k + 3 + 1 by omega,ht _ (by omega),show 4 * k + 3=4 * k + 2 + 1 by omega,ht _ (by omega),show 4 * k + 2=4 * k + 1 + 1 by omega,ht _ (by omega),ht _ (by omega)]
 simp only [List.append_assoc,List.cons_append,List.nil_append]
 exact wordsL_app4 _ _ _ _ k _ (by rw [List.length_take]; omega)
theorem wordsL_len:∀ (k:Nat) (l:List Int),l.length=4 * k→(wordsL l).length=k
 | 0,l,h=>by
  have:l=[]:=List.eq_nil_of_length_eq_zero (by omega)
  subst this
  rfl
 | k + 1,l,h=>by
  match l,h with
  | a :: b :: c :: d :: r,h=>simp only [wordsL,List.length_cons,wordsL_len k r (by simp at h; omega)]
open Go.RowKit
set_option linter.unusedVariables false in
set_option maxRecDepth 100000 in
set_option maxHeartbeats 3200000 in
theorem iWordsOf (A:Option Addr) (c m:Nat) (xs:List Int) (w:World) (hc:Cells w w.heap.size A (ints xs)) (hb:bitsB xs=true) (h4:xs.length=4 * m) (hm:m≤100000) :
  Calls Tryz.prog 54 #[.slice A xs.length c] w fun e w'=>∃ A' c',e=.returned (.slice A' m c')∧w'.ownsRow w.heap.size 3 1 (.slice A' m c') m (ints (wordsL xs))∧Below w.heap.size w w':=by
 have HC:=hid hc
 have HBX:=hid hb
 have HB:=hid (fun w hc=>iBits A c xs w hc (by omega))
 rw [hb] at HB
 skip
 obtain ⟨N,hN⟩:∃ n,xs.length=n:=⟨_,rfl⟩
 have hr4:((N:Nat):Int).tmod 4=0:=by rw [Int.tmod_eq_emod_of_nonneg (by omega)]; omega
 have hNm:N=4 * m:=by omega
 rw [hN] at HB ⊢
 have HNM:=hid (And.intro hN hNm)
 have hN4:N≤400000:=by omega
 clear h4 hc hb hN hNm
 go_enter Tryz.func54,Tryz.ntmps54
 go_wp2_with fail
 refine Calls.mono (HB.out _ HC.out) ?_
 rintro e w' ⟨rfl,rfl⟩
 go_wp2_with fail
 clear hr4
 go_loopw [3,4] (fun o i wr=>∃ (k:Nat) (A':Option Addr) (c':Nat),k≤m∧i=.int .i64 ((4 * k:Nat):Int)∧o=.slice A' k c'∧wr.ownsRow w.heap.size 3 1 (.slice A' k c') k (ints (wordsL (xs.take (4 * k))))∧Below w.heap.size w wr) (fun _ i _=>N - (intOf i).toNat)
 case atStart=>exact ⟨0,some ⟨w.heap.size,0,none⟩,0,Nat.zero_le _,rfl,rfl,own_lit (size:=1) #[] 0 rfl (Nat.le_refl _) (Nat.zero_le _) rfl,(Below.refl _ _).alloc (Nat.le_refl _) _⟩
 case round =>
  obtain ⟨k,A',c',hk,rfl,rfl,hown,hbw⟩:=hrel
  have zw:=hbw.size
  by_cases hlt:k < m
  ·have hN1:=HNM.out.1
   have hN2:=HNM.out.2
   have hg:∀ j,j < N→xs[j]? = some (xs.getD j 0):=fun j hj=>by rw [List.getD_eq_getElem?_getD,List.getElem?_eq_getElem (by omega)]; rfl
   have hstep:=wordsL_take (xs:=xs) (k:=k) (by omega)
   have hbit:∀ j,j < N→0≤xs.getD j 0∧xs.getD j 0≤1:=fun j hj=>inB_iff.1 (bitsB_get HBX.out (hg j hj))
   obtain ⟨b,off,e,hBb,hcl⟩:=Cells.at_ (HC.out.below hbw) (ints_get (hg 0 (by omega)))
   subst e
   obtain ⟨q,hq⟩:∃ q,4 * k=q:=⟨_,rfl⟩
   rw [hq] at hstep hown ⊢
   have d0:wr.cell? ⟨b,off + q,none⟩=_:=hcl _ _ (ints_get (hg q (by omega)))
   have d1:wr.cell? ⟨b,off + (q + 1),none⟩=_:=hcl _ _ (ints_get (hg (q + 1) (by omega)))
   have d2:wr.cell? ⟨b,off + (q + 2),none⟩=_:=hcl _ _ (ints_get (hg (q + 2) (by omega)))
   have d3:wr.cell? ⟨b,off + (q + 3),none⟩=_:=hcl _ _ (ints_get (hg (q + 3) (by omega)))
   have b0:=hbit q (by omega)
   have b1:=hbit (q + 1) (by omega)
   have b2:=hbit (q + 2) (by omega)
   have b3:=hbit (q + 3) (by omega)
   obtain ⟨x0,y0⟩:∃ x,xs.getD q 0=x:=⟨_,rfl⟩
   obtain ⟨x1,y1⟩:∃ x,xs.getD (q + 1) 0=x:=⟨_,rfl⟩
   obtain ⟨x2,y2⟩:∃ x,xs.getD (q + 2) 0=x:=⟨_,rfl⟩
   obtain ⟨x3,y3⟩:∃ x,xs.getD (q + 3) 0=x:=⟨_,rfl⟩
   rw [y0] at d0 b0 hstep
   rw [y1] at d1 b1 hstep
   rw [y2] at d2 b2 hstep
   rw [y3] at d3 b3 hstep
   have hqN:(q:Int) + 3 < (N:Int):=by omega
   have hqN0:(q:Int) < (N:Int):=by omega
   have hqN1:(q:Int) + 1 < (N:Int):=by omega
   have hqN2:(q:Int) + 2 < (N:Int):=by omega
   have q00:(0:Int)≤(q:Int):=by omega
   have t2:((q:Int) + 2).toNat=q + 2:=by omega
   have t3:((q:Int) + 3).toNat=q + 3:=by omega
   have q01:(0:Int)≤(q:Int) + 1:=by omega
   have q02:(0:Int)≤(q:Int) + 2:=by omega
   have q03:(0:Int)≤(q:Int) + 3:=by omega
   have hb1:k + 1≤1000000:=by omega
   have HST:=hid (And.intro hstep (And.intro hown (And.intro hbw hq)))
   clear hstep hbw hbit hg hcl y0 y1 y2 y3 hN1 hN2 hq
   have HSK:=hid (show ∀ w',Below w.heap.size wr w'→w'.cell? ⟨b,off + q,none⟩=some (.int .i64 x0)∧w'.cell? ⟨b,off + (q + 1),none⟩=some (.int .i64 x1)∧w'.cell? ⟨b,off + (q + 2),none⟩=some (.int .i64 x2)∧w'.cell? ⟨b,off + (q + 3),none⟩=some (.int .i64 x3) from fun w' h=>⟨(h.cell (p:=⟨b,off + q,none⟩) (by dsimp only; omega)).trans d0,(h.cell (p:=⟨b,off + (q + 1),none⟩) (by dsimp only; omega)).trans d1,(h.cell (p:=⟨b,off + (q + 2),none⟩) (by dsimp only; omega)).trans d2,(h.cell (p:=⟨b,off + (q + 3),none⟩) (by dsimp only; omega)).trans d3⟩)
   have v1:IntKind.i64.wrap (2 * x1)=2 * x1:=IntWalk.i64_in _ (by omega)
   have v2:IntKind.i64.wrap (x0 + 2 * x1)=x0 + 2 * x1:=IntWalk.i64_in _ (by omega)
   have v3:IntKind.i64.wrap (4 * x2)=4 * x2:=IntWalk.i64_in _ (by omega)
   have v4:IntKind.i64.wrap (x0 + 2 * x1 + 4 * x2)=x0 + 2 * x1 + 4 * x2:=IntWalk.i64_in _ (by omega)
   have v5:IntKind.i64.wrap (8 * x3)=8 * x3:=IntWalk.i64_in _ (by omega)
   have v6:IntKind.i64.wrap (x0 + 2 * x1 + 4 * x2 + 8 * x3)=x0 + 2 * x1 + 4 * x2 + 8 * x3:=IntWalk.i64_in _ (by omega)
   have u1:IntKind.i64.wrap ((q:Int) + 1)=(q:Int) + 1:=IntWalk.i64_in _ (by omega)
   have u2:IntKind.i64.wrap ((q:Int) + 2)=(q:Int) + 2:=IntWalk.i64_in _ (by omega)
   have u3:IntKind.i64.wrap ((q:Int) + 3)=(q:Int) + 3:=IntWalk.i64_in _ (by omega)
   go_wp2_with fail
   go_region_held3 (fun w'=>w'.cell? ⟨b,off + q,none⟩=some (.int .i64 x0)∧w'.cell? ⟨b,off + (q + 1),none⟩=some (.int .i64 x1)∧w'.cell? ⟨b,off + (q + 2),none⟩=some (.int .i64 x2)∧w'.cell? ⟨b,off + (q + 3),none⟩=some (.int .i64 x3)) (exact HSK.out _ (by exact belBy)) (first | (refine step_int_any (base:=w.heap.size) (L:=wordsL (xs.take q)) rfl (.tmp 21) (.tmp 47) rfl (v:=Value.slice A' k c') rfl ?_ ?_ [x0 + 2 * x1 + 4 * x2 + 8 * x3] rfl rfl ?_ (by decide) hb1 ?_; (focus (exact ownBy)); (focus (first | omega | (simp; omega))); (focus (exact top_cells _ [_] _)); intro g' c5 w5 ho5 hg5 hl5; have hb5:=gr_below hg5 (show Below w.heap.size wr _ by exact belBy) (by simp; omega) (fun p hp=>by have:=(own_in hown p hp).1; omega)))
   all_goals
    have HF:=hid (And.intro ho5 hb5)
    clear ho5 hg5 hl5 hb5 d0 d1 d2 d3
    go_wp2
    go_roundw
    case rel =>
     have e4:4 * (k + 1)=q + 4:=by have:=HST.out.2.2.2; omega
     exact ⟨k + 1,some ⟨g',0,none⟩,c5,by omega,congrArg (Value.int .i64) (by rw [e4]; omega),rfl,by rw [e4,HST.out.1]; exact HF.out.1,HST.out.2.2.1.trans HF.out.2⟩
    case measure=>simp [intOf]; omega
  ·obtain rfl:k=m:=by omega
   have hN1:=HNM.out.1
   have hN2:=HNM.out.2
   rw [show 4 * k=N by omega,←hN1,List.take_length] at hown
   have HF:=hid (And.intro hown hbw)
   have hlt2:¬ ((4 * k:Nat):Int) < (N:Int):=by omega
   clear hown hbw hN1 hN2
   go_wp2
   go_ret
   exact ⟨A',c',rfl,HF.out.1,HF.out.2⟩
open Go.RowKit
theorem o4_take {L:List St} (hL:∀ s∈L,stmtB s=true∧s.o≠12∧s.o≠13):∀ k,k≤L.length→∃ m,(compC (L.take k)).o.length=4 * m
 | 0,_=>⟨0,rfl⟩
 | k + 1,h=>by
  obtain ⟨m,hm⟩:=o4_take hL k (by omega)
  have hok:=ok_take hL k (by omega)
  rw [List.take_succ_eq_append_getElem (by omega),compC_snoc]
  unfold stepC
  split
  ·have hin:=stmt_in (hL _ (List.getElem_mem (by omega:k < L.length))).1
   obtain ⟨_,ha⟩:=hok.reg hin.2.2.1
   exact ⟨m + 1,by rw [List.length_append,word_len ha]; omega⟩
  ·exact ⟨m,hm⟩
theorem cirO_len {L:List St} (hu:unrB L=true):∃ m,(cirO L).length=4 * m∧m≤120:=by
 have e:(cirO L).length=(compL L).o.length:=by
  unfold cirO optC
  rw [prun_outs,simp_outs]
 rw [e,compL_yes hu]
 obtain ⟨m,hm⟩:=o4_take (unrL_ok L) (unrL L).length (Nat.le_refl _)
 rw [List.take_length] at hm
 have h:=(comp_ok L).oh
 have h2:=unrL_len L
 exact ⟨m,hm,by omega⟩
theorem dec_bit {ws ds os:List Int} (hw:∀ x∈ws,labelB x=true) (hd:bitsB ds=true):bitsB (decO ws ds os)=true:=by
 unfold bitsB decO
 rw [List.all_eq_true]
 intro x hx
 obtain ⟨i,_,rfl⟩:=List.mem_mapIdx.1 hx
 refine ask_bit (one_bit (getD_label hw _)) ?_
 rw [List.getD_eq_getElem?_getD]
 cases h:ds[i]? with
 | none=>rfl
 | some y=>exact bitsB_get hd h
open Go.RowKit
set_option linter.unusedVariables false in
set_option maxRecDepth 100000 in
set_option maxHeartbeats 6400000 in
theorem iSecYes (A:Option Addr) (c:Nat) (L:List St) (Ai:Option Addr) (ci:Nat) (ls:List In1) (s a s' a' p:Int) (w:World) (hc:Cells w w.heap.size A (ints (flatS L))) (hn:L.length≤1000000000) (hcap:L.length≤c) (hci:Cells w w.heap.size Ai (insW ls)) (hi:InsW w w.heap.size ls) (hm:ls.length + totL ls≤1000000000) (hu:unrB L=true) (hib:insB (insN ls)=true) (hb:lbtB s a s' a' (inBits (insN ls)) p=true) :
  Calls Tryz.prog 12 #[.slice A L.length c,.slice Ai ls.length ci,.agg #[.int .i64 s,.int .i64 a],.agg #[.int .i64 s',.int .i64 a'],.int .i64 p] w (GivesPair w (secO L (insN ls) s a) true):=by
 obtain ⟨B,hB⟩:∃ x,inBits (insN ls)=x:=⟨_,rfl⟩
 unfold secO
 rw [hB] at hb ⊢
 have hb2:=hb
 simp only [lbtB,Bool.and_eq_true,decide_eq_true_eq] at hb2
 obtain ⟨⟨⟨⟨⟨⟨hl80,hbb⟩,hp⟩,h1⟩,h3⟩,h2⟩,h4⟩:=hb2
 have hcv:=compL_valid hu
 have hol:=comp_outs L
 have hcir:=cir_valid hu
 obtain ⟨m,hom,hm9⟩:=cirO_len hu
 have hom6:(cirO L).length≤1000000:=by omega
 have hlab:=labs_labels s a B 80
 have hlen:=labsTo_length s a B 80
 have hgk:=gar_ok s a hcir hom6
 have hpk:=pub_ok s a hcir hom6
 have hwl:=wire_labels s a hcir hom6 hlab
 have hwn:=wireL_length s a (cirG L) (labsTo s a B 80)
 have HO:=hid (fun G O cg co w hg ho=>(show Calls Tryz.prog 49 #[.agg #[.slice G (compL L).g.length cg,.slice O (compL L).o.length co]] w (GivesK w (cirG L) (cirO L)) from iOptimize G O cg co (compL L).g (compL L).o w hg ho hcv hol))
 have HGA:=hid (fun G O cg co w hg ho=>(show Calls Tryz.prog 50 #[.agg #[.slice G (cirG L).length cg,.slice O (cirO L).length co],.agg #[.int .i64 s,.int .i64 a]] w (GivesG w (deltaI s a) (garZs s a (cirG L)) (garTs s a (cirG L))) from iGarble G O cg co (cirG L) (cirO L) s a w hg ho hcir hom6 h1 (by omega)))
 have HP:=hid (fun G O Z T cg co cz ct w hg ho hz ht=>(show Calls Tryz.prog 51 #[.agg #[.slice G (cirG L).length cg,.slice O (cirO L).length co],.agg #[.int .i64 (deltaI s a),.slice Z (garZs s a (cirG L)).length cz,.slice T (garTs s a (cirG L)).length ct]] w (GivesP w (garTs s a (cirG L)) (garCs s a (cirG L)) (decL (garZs s a (cirG L)) (cirO L))) from iPublicOf G O Z T cg co cz ct (cirG L) (cirO L) (deltaI s a) (garZs s a (cirG L)) (garTs s a (cirG L)) w hg ho hz ht hgk))
 have HE:=hid (fun G O T K D Q cg co ct ck cd cl w hg ho ht hc hd hl=>(show Calls Tryz.prog 52 #[.agg #[.slice G (cirG L).length cg,.slice O (cirO L).length co],.agg #[.slice T (garTs s a (cirG L)).length ct,.slice K (garCs s a (cirG L)).length ck,.slice D (decL (garZs s a (cirG L)) (cirO L)).length cd],.slice Q (labsTo s a B 80).length cl] w (GivesR w (wireL s a (cirG L) (labsTo s a B 80))) from iEvalGarbled G O T K D Q cg co ct ck cd cl (cirG L) (cirO L) _ _ _ (labsTo s a B 80) w hg ho ht hc hd hl hpk hlab hlen))
 have HD:=hid (fun G O T K D Q cg co ct ck cd cl w hg ho ht hc hd hl=>(show Calls Tryz.prog 53 #[.agg #[.slice G (cirG L).length cg,.slice O (cirO L).length co],.agg #[.slice T (garTs s a (cirG L)).length ct,.slice K (garCs s a (cirG L)).length ck,.slice D (decL (garZs s a (cirG L)) (cirO L)).length cd],.slice Q (wireL s a (cirG L) (labsTo s a B 80)).length cl] w (GivesR w (decO (wireL s a (cirG L) (labsTo s a B 80)) (decL (garZs s a (cirG L)) (cirO L)) (cirO L))) from iDecode G O T K D Q cg co ct ck cd cl (cirG L) (cirO L) _ _ _ _ w hg ho ht hc hd hl hpk hwl hwn))
 have hbo:=dec_bit (os:=cirO L) hwl hpk.d
 have hbl:(decO (wireL s a (cirG L) (labsTo s a B 80)) (decL (garZs s a (cirG L)) (cirO L)) (cirO L)).length=4 * m:=by rw [decO_length,hom]
 have HWD:=hid (fun A c w hc=>iWordsOf A c m _ w hc hbo hbl (by omega))
 have hwl2:=wordsL_len m _ hbl
 rw [show GivesPair w (wordsL (decO (wireL s a (cirG L) (labsTo s a B 80)) (decL (garZs s a (cirG L)) (cirO L)) (cirO L))) true=fun e w'=>∃ A c,e=.returned (.tuple #[.slice A m c,.bool true])∧w'.ownsRow w.heap.size 3 1 (.slice A m c) m (ints (wordsL (decO (wireL s a (cirG L) (labsTo s a B 80)) (decL (garZs s a (cirG L)) (cirO L)) (cirO L))))∧Below w.heap.size w w' by unfold GivesPair; rw [hwl2]]
 have HC:=hid (fun w hc=>iCompile A c L w hc hn hcap)
 have HIO:=hid (fun w' (h:Below w.heap.size w w')=>iInsOk Ai ci ls w' ((hci.below h).more h.size) ((hi.below h (Nat.le_refl _)).more h.size) (by omega) (fun q hq=>by have:=totL_mem hq; omega))
 have HIB:=hid (fun w' (h:Below w.heap.size w w')=>iInBits Ai ci ls w' ((hci.below h).more h.size) ((hi.below h (Nat.le_refl _)).more h.size) hib)
 have HTR:=hid (fun A c w hc=>iTransYes s a s' a' A c B p w hc hl80 hbb hp h1 h2 h3 h4)
 rw [hu] at HC
 rw [hib] at HIO
 rw [hB] at HIB
 obtain ⟨g0,hg0⟩:∃ x,(compL L).g=x:=⟨_,rfl⟩
 obtain ⟨o0,ho0⟩:∃ x,(compL L).o=x:=⟨_,rfl⟩
 obtain ⟨gs,hgs⟩:∃ x,cirG L=x:=⟨_,rfl⟩
 obtain ⟨os,hos⟩:∃ x,cirO L=x:=⟨_,rfl⟩
 obtain ⟨d,hd⟩:∃ x,deltaI s a=x:=⟨_,rfl⟩
 rw [hg0,ho0,hgs,hos] at HO
 rw [hgs,hos,hd] at HGA
 rw [hgs,hos,hd] at HP
 rw [hgs,hos] at HE
 rw [hgs,hos] at HD
 rw [hgs,hos] at HWD ⊢
 rw [hg0,ho0] at HC
 obtain ⟨zs,hzs⟩:∃ x,garZs s a gs=x:=⟨_,rfl⟩
 obtain ⟨ts,hts⟩:∃ x,garTs s a gs=x:=⟨_,rfl⟩
 obtain ⟨cs,hcs⟩:∃ x,garCs s a gs=x:=⟨_,rfl⟩
 rw [hzs,hts] at HGA
 rw [hzs,hts,hcs] at HP
 rw [hts,hcs,hzs] at HE
 obtain ⟨ds,hds⟩:∃ x,decL zs os=x:=⟨_,rfl⟩
 obtain ⟨LS,hLS⟩:∃ x,labsTo s a B 80=x:=⟨_,rfl⟩
 obtain ⟨ws,hws⟩:∃ x,wireL s a gs LS=x:=⟨_,rfl⟩
 rw [hds] at HP
 rw [hds,hLS,hws] at HE
 rw [hts,hcs,hzs,hds,hLS,hws] at HD
 rw [hzs,hds,hLS,hws] at HWD ⊢
 rw [hLS] at HTR
 obtain ⟨bo,hbo2⟩:∃ x,decO ws ds os=x:=⟨_,rfl⟩
 rw [hbo2] at HD HWD ⊢
 obtain ⟨wo,hwo⟩:∃ x,wordsL bo=x:=⟨_,rfl⟩
 rw [hwo] at HWD ⊢
 clear hcv hol hcir hom hm9 hom6 hlab hlen hgk hpk hwl hwn hbo hbl hwl2 hg0 ho0 hgs hos hd hzs hts hcs hds hLS hws hbo2 hwo hu hib hb hl80 hbb hp h1 h2 h3 h4 hB hci hi hm hn hcap
 go_enter Tryz.func12,Tryz.ntmps12
 have b_0:=(Below.refl w.heap.size w)
 have s_0:=b_0.size
 have xs_0:=hc
 clear hc
 go_upto_region 1 with fail
 refine wp_forget2 (w0:=w) (B:=w.heap.size) (b0:=w.heap.size) (t0:=27) (c0:=#[.int .i64 s,.int .i64 a]) (b1:=w.heap.size + 1) (t1:=27) (c1:=#[.int .i64 s',.int .i64 a']) ?_ ?_ ?_ ?_
 (focus exact blkcBy2)
 (focus exact blkcBy2)
 (focus (exact belBy))
 intro w1 t_1 u_1 hX1
 have sX1:=hX1.size
 have t_lt:=t_1.lt
 have u_lt:=u_1.lt
 have b_1:=b_0.trans (hX1.mono (by omega))
 have xs_1:=cells_below xs_0 hX1 (by omega)
 clear xs_0 b_0 hX1
 have cell_t:=t_1.cell
 have froz_t:=t_1.frozen
 have lt_t:=t_1.lt
 have cell_u:=u_1.cell
 have froz_u:=u_1.frozen
 have lt_u:=u_1.lt
 go_wp2_with fail
 refine calls_forget0 (W:=w1) ?_ ?_
 (focus (exact belBy))
 intro X2 hX2
 have sX2:=hX2.size
 refine (HC.out _ ((cells_below xs_1 hX2 (by omega)).more (by omega))).mono ?_
 rintro e w2 ⟨G0,cg0,O0,co0,rfl,g0r_2,o0r_2,hb2⟩
 have s2:=hb2.size
 have hT2:=hX2.trans (hb2.mono sX2)
 have b_2:=b_1.trans (hT2.mono (by omega))
 have xs_2:=cells_below xs_1 hT2 (by omega)
 have t_2:=Blk.past hT2 t_1
 have u_2:=Blk.past hT2 u_1
 have g0r_in:=own_in g0r_2
 have o0r_in:=own_in o0r_2
 clear xs_1 t_1 u_1 b_1 cell_t froz_t lt_t cell_u froz_u lt_u hX2 hT2 hb2
 have cell_t:=t_2.cell
 have froz_t:=t_2.frozen
 have lt_t:=t_2.lt
 have cell_u:=u_2.cell
 have froz_u:=u_2.frozen
 have lt_u:=u_2.lt
 go_upto_region 2 with fail
 refine wp_forget1 (w0:=w2) (B:=w2.heap.size) (b0:=w2.heap.size) (t0:=40) (c0:=#[.slice G0 g0.length cg0,.slice O0 o0.length co0]) ?_ ?_ ?_
 (focus exact blkcBy2)
 (focus (exact belBy))
 intro w3 x_3 hX3
 have sX3:=hX3.size
 have x_lt:=x_3.lt
 have b_3:=b_2.trans (hX3.mono (by omega))
 have xs_3:=cells_below xs_2 hX3 (by omega)
 have g0r_3:=own_below g0r_2 hX3
 have o0r_3:=own_below o0r_2 hX3
 have t_3:=Blk.past hX3 t_2
 have u_3:=Blk.past hX3 u_2
 clear xs_2 g0r_2 o0r_2 t_2 u_2 b_2 cell_t froz_t lt_t cell_u froz_u lt_u hX3
 have cell_t:=t_3.cell
 have froz_t:=t_3.frozen
 have lt_t:=t_3.lt
 have cell_u:=u_3.cell
 have froz_u:=u_3.frozen
 have lt_u:=u_3.lt
 have cell_x:=x_3.cell
 have froz_x:=x_3.frozen
 have lt_x:=x_3.lt
 go_wp2_with fail
 refine calls_forget0 (W:=w3) ?_ ?_
 (focus (exact belBy))
 intro X4 hX4
 have sX4:=hX4.size
 refine (HIO.out _ (b_3.trans (hX4.mono (by omega)))).mono ?_
 rintro e w' ⟨rfl,rfl⟩
 have b_4:=b_3.trans (hX4.mono (by omega))
 have xs_4:=cells_below xs_3 hX4 (by omega)
 have g0r_4:=own_below g0r_3 hX4
 have o0r_4:=own_below o0r_3 hX4
 have t_4:=Blk.past hX4 t_3
 have u_4:=Blk.past hX4 u_3
 have x_4:=Blk.past hX4 x_3
 clear xs_3 g0r_3 o0r_3 t_3 u_3 x_3 b_3 cell_t froz_t lt_t cell_u froz_u lt_u cell_x froz_x lt_x hX4
 have cell_t:=t_4.cell
 have froz_t:=t_4.frozen
 have lt_t:=t_4.lt
 have cell_u:=u_4.cell
 have froz_u:=u_4.frozen
 have lt_u:=u_4.lt
 have cell_x:=x_4.cell
 have froz_x:=x_4.frozen
 have lt_x:=x_4.lt
 go_wp2_with fail
 go_region_held3 (fun w'=>w'.cell? ⟨w.heap.size,0,none⟩=some (.int .i64 s)∧w'.cell? ⟨w.heap.size,1,none⟩=some (.int .i64 a)∧w'.cell? ⟨w.heap.size + 1,0,none⟩=some (.int .i64 s')∧w'.cell? ⟨w.heap.size + 1,1,none⟩=some (.int .i64 a')) ((refine ⟨(Blk.cell (t:=27) (cs:=#[.int .i64 s,.int .i64 a]) ?qt 0),(Blk.cell ?qt 1),(Blk.cell (t:=27) (cs:=#[.int .i64 s',.int .i64 a']) ?qu 0),(Blk.cell ?qu 1)⟩; (case qt=>(exact blkBy)); (case qu=>(exact blkBy)))) (first | (go_at_call 48; refine calls_forget0 (W:=X4) ?_ ?_; (focus (exact belBy)); intro X5 hX5; have sX5:=hX5.size; refine (HIB.out _ (b_4.trans (hX5.mono (by omega)))).mono ?_; rintro e w5 ⟨Ab,cb,rfl,bt_5,hb5⟩; have s5:=hb5.size; have hT5:=hX5.trans (hb5.mono sX5); have b_5:=b_4.trans (hT5.mono (by omega)); have xs_5:=cells_below xs_4 hT5 (by omega); have g0r_5:=own_below g0r_4 hT5; have o0r_5:=own_below o0r_4 hT5; have t_5:=Blk.past hT5 t_4; have u_5:=Blk.past hT5 u_4; have x_5:=Blk.past hT5 x_4; have bt_in:=own_in bt_5; clear xs_4 g0r_4 o0r_4 t_4 u_4 x_4 b_4 cell_t froz_t lt_t cell_u froz_u lt_u cell_x froz_x lt_x hX5 hT5 hb5; have cell_t:=t_5.cell; have froz_t:=t_5.frozen; have lt_t:=t_5.lt; have cell_u:=u_5.cell; have froz_u:=u_5.frozen; have lt_u:=u_5.lt; have cell_x:=x_5.cell; have froz_x:=x_5.frozen; have lt_x:=x_5.lt) | (go_at_call 47; refine calls_forget0 (W:=w5) ?_ ?_; (focus (exact belBy)); intro X6 hX6; have sX6:=hX6.size; refine (HTR.out _ _ _ (Cells.of_own (own_below bt_5 hX6))).mono ?_; rintro e w6 ⟨Al,cl,rfl,lb_6,hb6⟩; have s6:=hb6.size; have hT6:=hX6.trans (hb6.mono sX6); have b_6:=b_5.trans (hT6.mono (by omega)); have xs_6:=cells_below xs_5 hT6 (by omega); have g0r_6:=own_below g0r_5 hT6; have o0r_6:=own_below o0r_5 hT6; have bt_6:=own_below bt_5 hT6; have t_6:=Blk.past hT6 t_5; have u_6:=Blk.past hT6 u_5; have x_6:=Blk.past hT6 x_5; have lb_in:=own_in lb_6; clear xs_5 g0r_5 o0r_5 bt_5 t_5 u_5 x_5 b_5 cell_t froz_t lt_t cell_u froz_u lt_u cell_x froz_x lt_x hX6 hT6 hb6; have cell_t:=t_6.cell; have froz_t:=t_6.frozen; have lt_t:=t_6.lt; have cell_u:=u_6.cell; have froz_u:=u_6.frozen; have lt_u:=u_6.lt; have cell_x:=x_6.cell; have froz_x:=x_6.frozen; have lt_x:=x_6.lt))
 go_wp2_with fail
 refine calls_forget0 (W:=w6) ?_ ?_
 (focus (exact belBy))
 intro X7 hX7
 have sX7:=hX7.size
 refine (HO.out _ _ _ _ _ (Cells.of_own (own_below g0r_6 hX7)) (Cells.of_own (own_below o0r_6 hX7))).mono ?_
 rintro e w7 ⟨G1,cg1,O1,co1,rfl,g1_7,o1_7,hb7⟩
 have s7:=hb7.size
 have hT7:=hX7.trans (hb7.mono sX7)
 have b_7:=b_6.trans (hT7.mono (by omega))
 have xs_7:=cells_below xs_6 hT7 (by omega)
 have g0r_7:=own_below g0r_6 hT7
 have o0r_7:=own_below o0r_6 hT7
 have bt_7:=own_below bt_6 hT7
 have lb_7:=own_below lb_6 hT7
 have t_7:=Blk.past hT7 t_6
 have u_7:=Blk.past hT7 u_6
 have x_7:=Blk.past hT7 x_6
 have g1_in:=own_in g1_7
 have o1_in:=own_in o1_7
 clear xs_6 g0r_6 o0r_6 bt_6 lb_6 t_6 u_6 x_6 b_6 cell_t froz_t lt_t cell_u froz_u lt_u cell_x froz_x lt_x hX7 hT7 hb7
 have cell_t:=t_7.cell
 have froz_t:=t_7.frozen
 have lt_t:=t_7.lt
 have cell_u:=u_7.cell
 have froz_u:=u_7.frozen
 have lt_u:=u_7.lt
 have cell_x:=x_7.cell
 have froz_x:=x_7.frozen
 have lt_x:=x_7.lt
 go_upto_region 8 with fail
 refine wp_touch1 (w0:=w7) (L:=[w2.heap.size]) (b0:=w2.heap.size) (t0:=40) (c0:=#[.slice G1 gs.length cg1,.slice O1 os.length co1]) ?_ ?_ ?_
 (focus exact blkcBy2)
 (focus (exact tchBy))
 intro w8 x_8 hX8
 have sX8:=hX8.size
 have b_8:=hX8.below b_7 (by first | (simp; done) | (simp; omega))
 have xs_8:=cells_touch hX8 xs_7 (by omega) (by first | (simp; done) | (simp; omega))
 have g0r_8:=own_touch' hX8 g0r_7 (fun q hq=>by have h1:=g0r_in q hq; (try have e0:=own_ne_obj g0r_7 x_7 (by decide) q hq); simp; omega)
 have o0r_8:=own_touch' hX8 o0r_7 (fun q hq=>by have h1:=o0r_in q hq; (try have e0:=own_ne_obj o0r_7 x_7 (by decide) q hq); simp; omega)
 have bt_8:=own_touch' hX8 bt_7 (fun q hq=>by have h1:=bt_in q hq; (try have e0:=own_ne_obj bt_7 x_7 (by decide) q hq); simp; omega)
 have lb_8:=own_touch' hX8 lb_7 (fun q hq=>by have h1:=lb_in q hq; (try have e0:=own_ne_obj lb_7 x_7 (by decide) q hq); simp; omega)
 have g1_8:=own_touch' hX8 g1_7 (fun q hq=>by have h1:=g1_in q hq; (try have e0:=own_ne_obj g1_7 x_7 (by decide) q hq); simp; omega)
 have o1_8:=own_touch' hX8 o1_7 (fun q hq=>by have h1:=o1_in q hq; (try have e0:=own_ne_obj o1_7 x_7 (by decide) q hq); simp; omega)
 have t_8:=Blk.touch hX8 t_7 (by first | (simp; done) | (simp; omega))
 have u_8:=Blk.touch hX8 u_7 (by first | (simp; done) | (simp; omega))
 clear xs_7 g0r_7 o0r_7 bt_7 lb_7 g1_7 o1_7 t_7 u_7 x_7 b_7 cell_t froz_t lt_t cell_u froz_u lt_u cell_x froz_x lt_x hX8
 have cell_t:=t_8.cell
 have froz_t:=t_8.frozen
 have lt_t:=t_8.lt
 have cell_u:=u_8.cell
 have froz_u:=u_8.frozen
 have lt_u:=u_8.lt
 have cell_x:=x_8.cell
 have froz_x:=x_8.frozen
 have lt_x:=x_8.lt
 go_wp2_with fail
 refine calls_forget0 (W:=w8) ?_ ?_
 (focus (exact belBy))
 intro X9 hX9
 have sX9:=hX9.size
 refine (HGA.out _ _ _ _ _ (Cells.of_own (own_below g1_8 hX9)) (Cells.of_own (own_below o1_8 hX9))).mono ?_
 rintro e w9 ⟨Z,cz,T,ct,rfl,zz_9,tt_9,hb9⟩
 have s9:=hb9.size
 have hT9:=hX9.trans (hb9.mono sX9)
 have b_9:=b_8.trans (hT9.mono (by omega))
 have xs_9:=cells_below xs_8 hT9 (by omega)
 have g0r_9:=own_below g0r_8 hT9
 have o0r_9:=own_below o0r_8 hT9
 have bt_9:=own_below bt_8 hT9
 have lb_9:=own_below lb_8 hT9
 have g1_9:=own_below g1_8 hT9
 have o1_9:=own_below o1_8 hT9
 have t_9:=Blk.past hT9 t_8
 have u_9:=Blk.past hT9 u_8
 have x_9:=Blk.past hT9 x_8
 have zz_in:=own_in zz_9
 have tt_in:=own_in tt_9
 clear xs_8 g0r_8 o0r_8 bt_8 lb_8 g1_8 o1_8 t_8 u_8 x_8 b_8 cell_t froz_t lt_t cell_u froz_u lt_u cell_x froz_x lt_x hX9 hT9 hb9
 have cell_t:=t_9.cell
 have froz_t:=t_9.frozen
 have lt_t:=t_9.lt
 have cell_u:=u_9.cell
 have froz_u:=u_9.frozen
 have lt_u:=u_9.lt
 have cell_x:=x_9.cell
 have froz_x:=x_9.frozen
 have lt_x:=x_9.lt
 go_upto_region 9 with fail
 refine wp_forget1 (w0:=w9) (B:=w9.heap.size) (b0:=w9.heap.size) (t0:=76) (c0:=#[.int .i64 d,.slice Z zs.length cz,.slice T ts.length ct]) ?_ ?_ ?_
 (focus exact blkcBy2)
 (focus (exact belBy))
 intro w10 ga_10 hX10
 have sX10:=hX10.size
 have ga_lt:=ga_10.lt
 have b_10:=b_9.trans (hX10.mono (by omega))
 have xs_10:=cells_below xs_9 hX10 (by omega)
 have g0r_10:=own_below g0r_9 hX10
 have o0r_10:=own_below o0r_9 hX10
 have bt_10:=own_below bt_9 hX10
 have lb_10:=own_below lb_9 hX10
 have g1_10:=own_below g1_9 hX10
 have o1_10:=own_below o1_9 hX10
 have zz_10:=own_below zz_9 hX10
 have tt_10:=own_below tt_9 hX10
 have t_10:=Blk.past hX10 t_9
 have u_10:=Blk.past hX10 u_9
 have x_10:=Blk.past hX10 x_9
 clear xs_9 g0r_9 o0r_9 bt_9 lb_9 g1_9 o1_9 zz_9 tt_9 t_9 u_9 x_9 b_9 cell_t froz_t lt_t cell_u froz_u lt_u cell_x froz_x lt_x hX10
 have cell_t:=t_10.cell
 have froz_t:=t_10.frozen
 have lt_t:=t_10.lt
 have cell_u:=u_10.cell
 have froz_u:=u_10.frozen
 have lt_u:=u_10.lt
 have cell_x:=x_10.cell
 have froz_x:=x_10.frozen
 have lt_x:=x_10.lt
 have cell_ga:=ga_10.cell
 have froz_ga:=ga_10.frozen
 have lt_ga:=ga_10.lt
 go_wp2_with fail
 refine calls_forget0 (W:=w10) ?_ ?_
 (focus (exact belBy))
 intro X11 hX11
 have sX11:=hX11.size
 refine (HP.out _ _ _ _ _ _ _ _ _ (Cells.of_own (own_below g1_10 hX11)) (Cells.of_own (own_below o1_10 hX11)) (Cells.of_own (own_below zz_10 hX11)) (own_weak (own_below tt_10 hX11) (Nat.zero_le _))).mono ?_
 rintro e w11 ⟨T2,ct2,K,ck,D,cd,rfl,t2_11,kk_11,dd_11,hb11⟩
 have s11:=hb11.size
 have hT11:=hX11.trans (hb11.mono sX11)
 have b_11:=b_10.trans (hT11.mono (by omega))
 have xs_11:=cells_below xs_10 hT11 (by omega)
 have g0r_11:=own_below g0r_10 hT11
 have o0r_11:=own_below o0r_10 hT11
 have bt_11:=own_below bt_10 hT11
 have lb_11:=own_below lb_10 hT11
 have g1_11:=own_below g1_10 hT11
 have o1_11:=own_below o1_10 hT11
 have zz_11:=own_below zz_10 hT11
 have tt_11:=own_below tt_10 hT11
 have t_11:=Blk.past hT11 t_10
 have u_11:=Blk.past hT11 u_10
 have x_11:=Blk.past hT11 x_10
 have ga_11:=Blk.past hT11 ga_10
 have t2_in:=own_in t2_11
 have kk_in:=own_in kk_11
 have dd_in:=own_in dd_11
 clear xs_10 g0r_10 o0r_10 bt_10 lb_10 g1_10 o1_10 zz_10 tt_10 t_10 u_10 x_10 ga_10 b_10 cell_t froz_t lt_t cell_u froz_u lt_u cell_x froz_x lt_x cell_ga froz_ga lt_ga hX11 hT11 hb11
 have cell_t:=t_11.cell
 have froz_t:=t_11.frozen
 have lt_t:=t_11.lt
 have cell_u:=u_11.cell
 have froz_u:=u_11.frozen
 have lt_u:=u_11.lt
 have cell_x:=x_11.cell
 have froz_x:=x_11.frozen
 have lt_x:=x_11.lt
 have cell_ga:=ga_11.cell
 have froz_ga:=ga_11.frozen
 have lt_ga:=ga_11.lt
 go_upto_region 10 with fail
 refine wp_forget1 (w0:=w11) (B:=w11.heap.size) (b0:=w11.heap.size) (t0:=80) (c0:=#[.slice T2 ts.length ct2,.slice K cs.length ck,.slice D ds.length cd]) ?_ ?_ ?_
 (focus exact blkcBy2)
 (focus (exact belBy))
 intro w12 pu_12 hX12
 have sX12:=hX12.size
 have pu_lt:=pu_12.lt
 have b_12:=b_11.trans (hX12.mono (by omega))
 have xs_12:=cells_below xs_11 hX12 (by omega)
 have g0r_12:=own_below g0r_11 hX12
 have o0r_12:=own_below o0r_11 hX12
 have bt_12:=own_below bt_11 hX12
 have lb_12:=own_below lb_11 hX12
 have g1_12:=own_below g1_11 hX12
 have o1_12:=own_below o1_11 hX12
 have zz_12:=own_below zz_11 hX12
 have tt_12:=own_below tt_11 hX12
 have t2_12:=own_below t2_11 hX12
 have kk_12:=own_below kk_11 hX12
 have dd_12:=own_below dd_11 hX12
 have t_12:=Blk.past hX12 t_11
 have u_12:=Blk.past hX12 u_11
 have x_12:=Blk.past hX12 x_11
 have ga_12:=Blk.past hX12 ga_11
 clear xs_11 g0r_11 o0r_11 bt_11 lb_11 g1_11 o1_11 zz_11 tt_11 t2_11 kk_11 dd_11 t_11 u_11 x_11 ga_11 b_11 cell_t froz_t lt_t cell_u froz_u lt_u cell_x froz_x lt_x cell_ga froz_ga lt_ga hX12
 have cell_t:=t_12.cell
 have froz_t:=t_12.frozen
 have lt_t:=t_12.lt
 have cell_u:=u_12.cell
 have froz_u:=u_12.frozen
 have lt_u:=u_12.lt
 have cell_x:=x_12.cell
 have froz_x:=x_12.frozen
 have lt_x:=x_12.lt
 have cell_ga:=ga_12.cell
 have froz_ga:=ga_12.frozen
 have lt_ga:=ga_12.lt
 have cell_pu:=pu_12.cell
 have froz_pu:=pu_12.frozen
 have lt_pu:=pu_12.lt
 go_wp2_with fail
 refine calls_forget0 (W:=w12) ?_ ?_
 (focus (exact belBy))
 intro X13 hX13
 have sX13:=hX13.size
 refine (HE.out _ _ _ _ _ _ _ _ _ _ _ _ _ (Cells.of_own (own_below g1_12 hX13)) (Cells.of_own (own_below o1_12 hX13)) (Cells.of_own (own_below t2_12 hX13)) (Cells.of_own (own_below kk_12 hX13)) (Cells.of_own (own_below dd_12 hX13)) (Cells.of_own (own_below lb_12 hX13))).mono ?_
 rintro e w13 ⟨A5,c5,rfl,wr5_13,hb13⟩
 have s13:=hb13.size
 have hT13:=hX13.trans (hb13.mono sX13)
 have b_13:=b_12.trans (hT13.mono (by omega))
 have xs_13:=cells_below xs_12 hT13 (by omega)
 have g0r_13:=own_below g0r_12 hT13
 have o0r_13:=own_below o0r_12 hT13
 have bt_13:=own_below bt_12 hT13
 have lb_13:=own_below lb_12 hT13
 have g1_13:=own_below g1_12 hT13
 have o1_13:=own_below o1_12 hT13
 have zz_13:=own_below zz_12 hT13
 have tt_13:=own_below tt_12 hT13
 have t2_13:=own_below t2_12 hT13
 have kk_13:=own_below kk_12 hT13
 have dd_13:=own_below dd_12 hT13
 have t_13:=Blk.past hT13 t_12
 have u_13:=Blk.past hT13 u_12
 have x_13:=Blk.past hT13 x_12
 have ga_13:=Blk.past hT13 ga_12
 have pu_13:=Blk.past hT13 pu_12
 have wr5_in:=own_in wr5_13
 clear xs_12 g0r_12 o0r_12 bt_12 lb_12 g1_12 o1_12 zz_12 tt_12 t2_12 kk_12 dd_12 t_12 u_12 x_12 ga_12 pu_12 b_12 cell_t froz_t lt_t cell_u froz_u lt_u cell_x froz_x lt_x cell_ga froz_ga lt_ga cell_pu froz_pu lt_pu hX13 hT13 hb13
 have cell_t:=t_13.cell
 have froz_t:=t_13.frozen
 have lt_t:=t_13.lt
 have cell_u:=u_13.cell
 have froz_u:=u_13.frozen
 have lt_u:=u_13.lt
 have cell_x:=x_13.cell
 have froz_x:=x_13.frozen
 have lt_x:=x_13.lt
 have cell_ga:=ga_13.cell
 have froz_ga:=ga_13.frozen
 have lt_ga:=ga_13.lt
 have cell_pu:=pu_13.cell
 have froz_pu:=pu_13.frozen
 have lt_pu:=pu_13.lt
 go_wp2_with fail
 refine calls_forget0 (W:=w13) ?_ ?_
 (focus (exact belBy))
 intro X14 hX14
 have sX14:=hX14.size
 refine (HD.out _ _ _ _ _ _ _ _ _ _ _ _ _ (Cells.of_own (own_below g1_13 hX14)) (Cells.of_own (own_below o1_13 hX14)) (Cells.of_own (own_below t2_13 hX14)) (Cells.of_own (own_below kk_13 hX14)) (Cells.of_own (own_below dd_13 hX14)) (Cells.of_own (own_below wr5_13 hX14))).mono ?_
 rintro e w14 ⟨A6,c6,rfl,br_14,hb14⟩
 have s14:=hb14.size
 have hT14:=hX14.trans (hb14.mono sX14)
 have b_14:=b_13.trans (hT14.mono (by omega))
 have xs_14:=cells_below xs_13 hT14 (by omega)
 have g0r_14:=own_below g0r_13 hT14
 have o0r_14:=own_below o0r_13 hT14
 have bt_14:=own_below bt_13 hT14
 have lb_14:=own_below lb_13 hT14
 have g1_14:=own_below g1_13 hT14
 have o1_14:=own_below o1_13 hT14
 have zz_14:=own_below zz_13 hT14
 have tt_14:=own_below tt_13 hT14
 have t2_14:=own_below t2_13 hT14
 have kk_14:=own_below kk_13 hT14
 have dd_14:=own_below dd_13 hT14
 have wr5_14:=own_below wr5_13 hT14
 have t_14:=Blk.past hT14 t_13
 have u_14:=Blk.past hT14 u_13
 have x_14:=Blk.past hT14 x_13
 have ga_14:=Blk.past hT14 ga_13
 have pu_14:=Blk.past hT14 pu_13
 have br_in:=own_in br_14
 clear xs_13 g0r_13 o0r_13 bt_13 lb_13 g1_13 o1_13 zz_13 tt_13 t2_13 kk_13 dd_13 wr5_13 t_13 u_13 x_13 ga_13 pu_13 b_13 cell_t froz_t lt_t cell_u froz_u lt_u cell_x froz_x lt_x cell_ga froz_ga lt_ga cell_pu froz_pu lt_pu hX14 hT14 hb14
 have cell_t:=t_14.cell
 have froz_t:=t_14.frozen
 have lt_t:=t_14.lt
 have cell_u:=u_14.cell
 have froz_u:=u_14.frozen
 have lt_u:=u_14.lt
 have cell_x:=x_14.cell
 have froz_x:=x_14.frozen
 have lt_x:=x_14.lt
 have cell_ga:=ga_14.cell
 have froz_ga:=ga_14.frozen
 have lt_ga:=ga_14.lt
 have cell_pu:=pu_14.cell
 have froz_pu:=pu_14.frozen
 have lt_pu:=pu_14.lt
 go_wp2_with fail
 refine calls_forget0 (W:=w14) ?_ ?_
 (focus (exact belBy))
 intro X15 hX15
 have sX15:=hX15.size
 refine (HWD.out _ _ _ (Cells.of_own (own_below br_14 hX15))).mono ?_
 rintro e w15 ⟨A7,c7,rfl,oo_15,hb15⟩
 have s15:=hb15.size
 have hT15:=hX15.trans (hb15.mono sX15)
 have b_15:=b_14.trans (hT15.mono (by omega))
 have xs_15:=cells_below xs_14 hT15 (by omega)
 have g0r_15:=own_below g0r_14 hT15
 have o0r_15:=own_below o0r_14 hT15
 have bt_15:=own_below bt_14 hT15
 have lb_15:=own_below lb_14 hT15
 have g1_15:=own_below g1_14 hT15
 have o1_15:=own_below o1_14 hT15
 have zz_15:=own_below zz_14 hT15
 have tt_15:=own_below tt_14 hT15
 have t2_15:=own_below t2_14 hT15
 have kk_15:=own_below kk_14 hT15
 have dd_15:=own_below dd_14 hT15
 have wr5_15:=own_below wr5_14 hT15
 have br_15:=own_below br_14 hT15
 have t_15:=Blk.past hT15 t_14
 have u_15:=Blk.past hT15 u_14
 have x_15:=Blk.past hT15 x_14
 have ga_15:=Blk.past hT15 ga_14
 have pu_15:=Blk.past hT15 pu_14
 have oo_in:=own_in oo_15
 clear xs_14 g0r_14 o0r_14 bt_14 lb_14 g1_14 o1_14 zz_14 tt_14 t2_14 kk_14 dd_14 wr5_14 br_14 t_14 u_14 x_14 ga_14 pu_14 b_14 cell_t froz_t lt_t cell_u froz_u lt_u cell_x froz_x lt_x cell_ga froz_ga lt_ga cell_pu froz_pu lt_pu hX15 hT15 hb15
 have cell_t:=t_15.cell
 have froz_t:=t_15.frozen
 have lt_t:=t_15.lt
 have cell_u:=u_15.cell
 have froz_u:=u_15.frozen
 have lt_u:=u_15.lt
 have cell_x:=x_15.cell
 have froz_x:=x_15.frozen
 have lt_x:=x_15.lt
 have cell_ga:=ga_15.cell
 have froz_ga:=ga_15.frozen
 have lt_ga:=ga_15.lt
 have cell_pu:=pu_15.cell
 have froz_pu:=pu_15.frozen
 have lt_pu:=pu_15.lt
 have HF:=hid (And.intro (own_weak oo_15 (show w.heap.size≤_ by omega)) b_15)
 clear oo_15 b_15
 go_wp2
 ((try simp only [Exit.inBlock,Exit.then]); apply bodyPost_ret0; focus ((try simp only [results,Tryz.results12]); (try go_simp); (try rfl)))
 exact ⟨A7,c7,rfl,HF.out.1,HF.out.2⟩
noncomputable def secR (L:List St) (ins:List (List Int)) (s a s' a' p:Int):Bool:=unrB L && insB ins && lbtB s a s' a' (inBits ins) p
noncomputable def secL (L:List St) (ins:List (List Int)) (s a s' a' p:Int):List Int:=if secR L ins s a s' a' p=true then secO L ins s a else []
set_option linter.unusedVariables false in
set_option maxRecDepth 100000 in
set_option maxHeartbeats 6400000 in
theorem iRunSecure (A:Option Addr) (c:Nat) (L:List St) (Ai:Option Addr) (ci:Nat) (ls:List In1) (s a s' a' p:Int) (w:World) (hc:Cells w w.heap.size A (ints (flatS L))) (hn:L.length≤1000000000) (hcap:L.length≤c) (hci:Cells w w.heap.size Ai (insW ls)) (hi:InsW w w.heap.size ls) (hm:ls.length + totL ls≤1000000000) :
  Calls Tryz.prog 12 #[.slice A L.length c,.slice Ai ls.length ci,.agg #[.int .i64 s,.int .i64 a],.agg #[.int .i64 s',.int .i64 a'],.int .i64 p] w (GivesPair w (secL L (insN ls) s a s' a' p) (secR L (insN ls) s a s' a' p)):=by
 unfold secL secR
 have HC:=hid (fun w hc=>iCompile A c L w hc hn hcap)
 have HIO:=hid (fun w' (h:Below w.heap.size w w')=>iInsOk Ai ci ls w' ((hci.below h).more h.size) ((hi.below h (Nat.le_refl _)).more h.size) (by omega) (fun q hq=>by have:=totL_mem hq; omega))
 cases hu:unrB L
 ·rw [Bool.false_and,Bool.false_and,if_neg Bool.false_ne_true]
  rw [hu] at HC
  obtain ⟨g0,hg0⟩:∃ x,(compL L).g=x:=⟨_,rfl⟩
  obtain ⟨o0,ho0⟩:∃ x,(compL L).o=x:=⟨_,rfl⟩
  rw [hg0,ho0] at HC
  clear hg0 ho0 hu hci hi hm hn hcap HIO
  go_enter Tryz.func12,Tryz.ntmps12
  have b_0:=(Below.refl w.heap.size w)
  have s_0:=b_0.size
  have xs_0:=hc
  clear hc
  go_wp2_with fail
  refine calls_forget0 (W:=w) ?_ ?_
  (focus (exact belBy))
  intro X1 hX1
  have sX1:=hX1.size
  refine (HC.out _ ((cells_below xs_0 hX1 (by omega)).more (by omega))).mono ?_
  rintro e w1 ⟨G0,cg0,O0,co0,rfl,g0r_1,o0r_1,hb1⟩
  have s1:=hb1.size
  have hT1:=hX1.trans (hb1.mono sX1)
  have b_1:=b_0.trans (hT1.mono (by omega))
  have xs_1:=cells_below xs_0 hT1 (by omega)
  have g0r_in:=own_in g0r_1
  have o0r_in:=own_in o0r_1
  clear xs_0 b_0 hX1 hT1 hb1
  have HB:=hid b_1
  clear b_1 g0r_1 o0r_1 s1 s_0
  go_wp2
  ((try simp only [Exit.inBlock,Exit.then]); apply bodyPost_ret0; focus ((try simp only [results,Tryz.results12]); (try go_simp); (try rfl)))
  refine ⟨none,0,rfl,own_none,?_⟩
  have hb:=HB.out
  have hz:=hb.size
  exact belBy
 cases hib:insB (insN ls)
 ·rw [Bool.and_false,Bool.false_and,if_neg Bool.false_ne_true]
  rw [hu] at HC
  rw [hib] at HIO
  obtain ⟨g0,hg0⟩:∃ x,(compL L).g=x:=⟨_,rfl⟩
  obtain ⟨o0,ho0⟩:∃ x,(compL L).o=x:=⟨_,rfl⟩
  rw [hg0,ho0] at HC
  clear hg0 ho0 hu hci hi hm hn hcap hib
  go_enter Tryz.func12,Tryz.ntmps12
  have b_0:=(Below.refl w.heap.size w)
  have s_0:=b_0.size
  have xs_0:=hc
  clear hc
  go_wp2_with fail
  refine calls_forget0 (W:=w) ?_ ?_
  (focus (exact belBy))
  intro X1 hX1
  have sX1:=hX1.size
  refine (HC.out _ ((cells_below xs_0 hX1 (by omega)).more (by omega))).mono ?_
  rintro e w1 ⟨G0,cg0,O0,co0,rfl,g0r_1,o0r_1,hb1⟩
  have s1:=hb1.size
  have hT1:=hX1.trans (hb1.mono sX1)
  have b_1:=b_0.trans (hT1.mono (by omega))
  have xs_1:=cells_below xs_0 hT1 (by omega)
  have g0r_in:=own_in g0r_1
  have o0r_in:=own_in o0r_1
  clear xs_0 b_0 hX1 hT1 hb1
  go_upto_region 2 with fail
  refine wp_forget0 (w0:=w1) (B:=w1.heap.size) ?_ ?_
  (focus (exact belBy))
  intro w2 hX2
  have sX2:=hX2.size
  have b_2:=b_1.trans (hX2.mono (by omega))
  have xs_2:=cells_below xs_1 hX2 (by omega)
  have g0r_2:=own_below g0r_1 hX2
  have o0r_2:=own_below o0r_1 hX2
  clear xs_1 g0r_1 o0r_1 b_1 hX2
  go_wp2_with fail
  refine calls_forget0 (W:=w2) ?_ ?_
  (focus (exact belBy))
  intro X3 hX3
  have sX3:=hX3.size
  refine (HIO.out _ (b_2.trans (hX3.mono (by omega)))).mono ?_
  rintro e w' ⟨rfl,rfl⟩
  have b_3:=b_2.trans (hX3.mono (by omega))
  have xs_3:=cells_below xs_2 hX3 (by omega)
  have g0r_3:=own_below g0r_2 hX3
  have o0r_3:=own_below o0r_2 hX3
  clear xs_2 g0r_2 o0r_2 b_2 hX3
  have HB:=hid b_3
  clear b_3 g0r_3 o0r_3
  go_wp2
  ((try simp only [Exit.inBlock,Exit.then]); apply bodyPost_ret0; focus ((try simp only [results,Tryz.results12]); (try go_simp); (try rfl)))
  refine ⟨none,0,rfl,own_none,?_⟩
  have hb:=HB.out
  have hz:=hb.size
  exact belBy
 cases hb:lbtB s a s' a' (inBits (insN ls)) p
 ·rw [Bool.and_false,if_neg Bool.false_ne_true]
  have hl80:=inBits_len hib
  have HIB:=hid (fun w' (h:Below w.heap.size w w')=>iInBits Ai ci ls w' ((hci.below h).more h.size) ((hi.below h (Nat.le_refl _)).more h.size) hib)
  have HTR:=hid (fun A c w hc=>iTrans s a s' a' A c (inBits (insN ls)) p w hc (by omega))
  unfold lbtL at HTR
  rw [hl80,hb,if_neg Bool.false_ne_true] at HTR
  rw [hu] at HC
  rw [hib] at HIO
  obtain ⟨g0,hg0⟩:∃ x,(compL L).g=x:=⟨_,rfl⟩
  obtain ⟨o0,ho0⟩:∃ x,(compL L).o=x:=⟨_,rfl⟩
  rw [hg0,ho0] at HC
  obtain ⟨B,hB⟩:∃ x,inBits (insN ls)=x:=⟨_,rfl⟩
  rw [hB] at HIB HTR
  clear hg0 ho0 hu hci hi hm hn hcap hib hb hl80 hB
  go_enter Tryz.func12,Tryz.ntmps12
  have b_0:=(Below.refl w.heap.size w)
  have s_0:=b_0.size
  have xs_0:=hc
  clear hc
  go_upto_region 1 with fail
  refine wp_forget2 (w0:=w) (B:=w.heap.size) (b0:=w.heap.size) (t0:=27) (c0:=#[.int .i64 s,.int .i64 a]) (b1:=w.heap.size + 1) (t1:=27) (c1:=#[.int .i64 s',.int .i64 a']) ?_ ?_ ?_ ?_
  (focus exact blkcBy2)
  (focus exact blkcBy2)
  (focus (exact belBy))
  intro w1 t_1 u_1 hX1
  have sX1:=hX1.size
  have t_lt:=t_1.lt
  have u_lt:=u_1.lt
  have b_1:=b_0.trans (hX1.mono (by omega))
  have xs_1:=cells_below xs_0 hX1 (by omega)
  clear xs_0 b_0 hX1
  have cell_t:=t_1.cell
  have froz_t:=t_1.frozen
  have lt_t:=t_1.lt
  have cell_u:=u_1.cell
  have froz_u:=u_1.frozen
  have lt_u:=u_1.lt
  go_wp2_with fail
  refine calls_forget0 (W:=w1) ?_ ?_
  (focus (exact belBy))
  intro X2 hX2
  have sX2:=hX2.size
  refine (HC.out _ ((cells_below xs_1 hX2 (by omega)).more (by omega))).mono ?_
  rintro e w2 ⟨G0,cg0,O0,co0,rfl,g0r_2,o0r_2,hb2⟩
  have s2:=hb2.size
  have hT2:=hX2.trans (hb2.mono sX2)
  have b_2:=b_1.trans (hT2.mono (by omega))
  have xs_2:=cells_below xs_1 hT2 (by omega)
  have t_2:=Blk.past hT2 t_1
  have u_2:=Blk.past hT2 u_1
  have g0r_in:=own_in g0r_2
  have o0r_in:=own_in o0r_2
  clear xs_1 t_1 u_1 b_1 cell_t froz_t lt_t cell_u froz_u lt_u hX2 hT2 hb2
  have cell_t:=t_2.cell
  have froz_t:=t_2.frozen
  have lt_t:=t_2.lt
  have cell_u:=u_2.cell
  have froz_u:=u_2.frozen
  have lt_u:=u_2.lt
  go_upto_region 2 with fail
  refine wp_forget0 (w0:=w2) (B:=w2.heap.size) ?_ ?_
  (focus (exact belBy))
  intro w3 hX3
  have sX3:=hX3.size
  have b_3:=b_2.trans (hX3.mono (by omega))
  have xs_3:=cells_below xs_2 hX3 (by omega)
  have g0r_3:=own_below g0r_2 hX3
  have o0r_3:=own_below o0r_2 hX3
  have t_3:=Blk.past hX3 t_2
  have u_3:=Blk.past hX3 u_2
  clear xs_2 g0r_2 o0r_2 t_2 u_2 b_2 cell_t froz_t lt_t cell_u froz_u lt_u hX3
  have cell_t:=t_3.cell
  have froz_t:=t_3.frozen
  have lt_t:=t_3.lt
  have cell_u:=u_3.cell
  have froz_u:=u_3.frozen
  have lt_u:=u_3.lt
  go_wp2_with fail
  refine calls_forget0 (W:=w3) ?_ ?_
  (focus (exact belBy))
  intro X4 hX4
  have sX4:=hX4.size
  refine (HIO.out _ (b_3.trans (hX4.mono (by omega)))).mono ?_
  rintro e w' ⟨rfl,rfl⟩
  have b_4:=b_3.trans (hX4.mono (by omega))
  have xs_4:=cells_below xs_3 hX4 (by omega)
  have g0r_4:=own_below g0r_3 hX4
  have o0r_4:=own_below o0r_3 hX4
  have t_4:=Blk.past hX4 t_3
  have u_4:=Blk.past hX4 u_3
  clear xs_3 g0r_3 o0r_3 t_3 u_3 b_3 cell_t froz_t lt_t cell_u froz_u lt_u hX4
  have cell_t:=t_4.cell
  have froz_t:=t_4.frozen
  have lt_t:=t_4.lt
  have cell_u:=u_4.cell
  have froz_u:=u_4.frozen
  have lt_u:=u_4.lt
  go_wp2_with fail
  go_region_held3 (fun w'=>w'.cell? ⟨w.heap.size,0,none⟩=some (.int .i64 s)∧w'.cell? ⟨w.heap.size,1,none⟩=some (.int .i64 a)∧w'.cell? ⟨w.heap.size + 1,0,none⟩=some (.int .i64 s')∧w'.cell? ⟨w.heap.size + 1,1,none⟩=some (.int .i64 a')) ((refine ⟨(Blk.cell (t:=27) (cs:=#[.int .i64 s,.int .i64 a]) ?qt 0),(Blk.cell ?qt 1),(Blk.cell (t:=27) (cs:=#[.int .i64 s',.int .i64 a']) ?qu 0),(Blk.cell ?qu 1)⟩; (case qt=>(exact blkBy)); (case qu=>(exact blkBy)))) (first | (go_at_call 48; refine calls_forget0 (W:=X4) ?_ ?_; (focus (exact belBy)); intro X5 hX5; have sX5:=hX5.size; refine (HIB.out _ (b_4.trans (hX5.mono (by omega)))).mono ?_; rintro e w5 ⟨Ab,cb,rfl,bt_5,hb5⟩; have s5:=hb5.size; have hT5:=hX5.trans (hb5.mono sX5); have b_5:=b_4.trans (hT5.mono (by omega)); have xs_5:=cells_below xs_4 hT5 (by omega); have g0r_5:=own_below g0r_4 hT5; have o0r_5:=own_below o0r_4 hT5; have t_5:=Blk.past hT5 t_4; have u_5:=Blk.past hT5 u_4; have bt_in:=own_in bt_5; clear xs_4 g0r_4 o0r_4 t_4 u_4 b_4 cell_t froz_t lt_t cell_u froz_u lt_u hX5 hT5 hb5; have cell_t:=t_5.cell; have froz_t:=t_5.frozen; have lt_t:=t_5.lt; have cell_u:=u_5.cell; have froz_u:=u_5.frozen; have lt_u:=u_5.lt) | (go_at_call 47; refine calls_forget0 (W:=w5) ?_ ?_; (focus (exact belBy)); intro X6 hX6; have sX6:=hX6.size; refine (HTR.out _ _ _ (Cells.of_own (own_below bt_5 hX6))).mono ?_; rintro e w6 ⟨Al,cl,rfl,lb_6,hb6⟩; have s6:=hb6.size; have hT6:=hX6.trans (hb6.mono sX6); have b_6:=b_5.trans (hT6.mono (by omega)); have xs_6:=cells_below xs_5 hT6 (by omega); have g0r_6:=own_below g0r_5 hT6; have o0r_6:=own_below o0r_5 hT6; have bt_6:=own_below bt_5 hT6; have t_6:=Blk.past hT6 t_5; have u_6:=Blk.past hT6 u_5; have lb_in:=own_in lb_6; clear xs_5 g0r_5 o0r_5 bt_5 t_5 u_5 b_5 cell_t froz_t lt_t cell_u froz_u lt_u hX6 hT6 hb6; have cell_t:=t_6.cell; have froz_t:=t_6.frozen; have lt_t:=t_6.lt; have cell_u:=u_6.cell; have froz_u:=u_6.frozen; have lt_u:=u_6.lt))
  have HB:=hid b_6
  clear b_6 g0r_6 o0r_6 bt_6 lb_6
  go_wp2
  ((try simp only [Exit.inBlock,Exit.then]); apply bodyPost_ret0; focus ((try simp only [results,Tryz.results12]); (try go_simp); (try rfl)))
  refine ⟨none,0,rfl,own_none,?_⟩
  have hb:=HB.out
  have hz:=hb.size
  exact belBy
 ·rw [Bool.and_self,Bool.and_self,if_pos rfl]
  exact iSecYes A c L Ai ci ls s a s' a' p w hc hn hcap hci hi hm hu hib hb
open Go.RowKit
theorem scan_plain:∀ L:List St,(∀ s∈L,stmtB s=true∧s.o≠12∧s.o≠13)→scanP 0 L=true
 | [],_=>rfl
 | s :: r,h=>by
  obtain ⟨h1,h2,h3⟩:=h s List.mem_cons_self
  have hd:dep s 0=0:=by unfold dep; rw [if_neg h2,if_neg h3]
  rw [scanP,h1,hd,scan_plain r fun x hx=>h x (List.mem_cons_of_mem _ hx)]
  rfl
theorem tree_plain:∀ t:Tr,t.ok=true→(∀ s∈t.flat,s.o≠12)→t.us=t.flat.length∧t.unr=t.flat
 | .nil,_,_=>⟨rfl,rfl⟩
 | .one s r,h,hn=>by
  simp only [Tr.ok,Bool.and_eq_true] at h
  obtain ⟨h1,h2⟩:=tree_plain r h.2.2.2 fun x hx=>hn x (List.mem_cons_of_mem _ hx)
  exact ⟨by simp only [Tr.us,Tr.flat,List.length_cons,h1]; omega,by simp only [Tr.unr,Tr.flat,h2]⟩
 | .loop h b e r,ht,hn=>by
  simp only [Tr.ok,Bool.and_eq_true,beq_iff_eq] at ht
  exact absurd ht.2.1 (hn h List.mem_cons_self)
theorem loopless {L:List St} (h:∀ s∈L,stmtB s=true∧s.o≠12∧s.o≠13) (hl:L.length≤40):unrB L=true∧unrL L=L:=by
 have hp:progB L=true:=by
  unfold progB
  rw [decide_eq_true hl,scan_plain L h]
  rfl
 obtain ⟨e,h1,_,_⟩:=trOf_ok hp
 have h2:=tree_plain (trOf L) h1 (by rw [←e]; exact fun s hs=>(h s hs).2.1)
 rw [←e] at h2
 have hu:unrB L=true:=by
  unfold unrB
  rw [hp,h2.1,decide_eq_true (by omega)]
  rfl
 exact ⟨hu,by unfold unrL; rw [if_pos hu]; exact h2.2⟩
end Go.Proofs.YtihbaieiempjeaaGreat
set_option linter.unusedVariables false
namespace Go.Proofs.YtihbaieiempjeaaGreat
open Go.RowKit Go.ChangeShapes Go.WideShapes Go.ChangeAt
theorem own_cap {w:World} {base e size n c:Nat} {A:Option Addr} {xs:List Value} (h:w.ownsRow base e size (.slice A n c) n xs):n≤c:=by
 rcases h.2 with ⟨hv,hn⟩ | ⟨g,cap,cur,hv,hg,hh,r⟩
 ·injection hv with _ h2 h3
  omega
 ·injection hv with _ _ h3
  subst h3
  exact r.1
def toI (ls:List (Nat × Nat × List Int)):List In1:=ls.map fun q=>(some ⟨q.1,0,none⟩,q.2.1,q.2.2)
theorem toI_len (ls:List (Nat × Nat × List Int)):(toI ls).length=ls.length:=by simp [toI]
theorem toI_W {w:World} {base:Nat} {ls:List (Nat × Nat × List Int)} (h:InsO w base ls):insW (toI ls)=insV ls:=by
 unfold insW toI insV
 rw [List.map_map]
 apply List.map_congr_left
 intro q hq
 obtain ⟨i,hi⟩:=List.mem_iff_getElem?.1 hq
 have e:q.2.2.length=4:=(h i q hi).2.1
 simp [e]
theorem toI_in {w:World} {base:Nat} {ls:List (Nat × Nat × List Int)} (h:InsO w base ls):InsW w w.heap.size (toI ls):=by
 intro i q hq
 unfold toI at hq
 rw [List.getElem?_map] at hq
 cases hx:ls[i]? with
 | none=>rw [hx] at hq; cases hq
 | some x =>
  rw [hx] at hq
  obtain rfl:=Option.some.inj hq
  exact Cells.of_own (h i x hx).1
theorem toI_ok {w:World} {base:Nat} {ls:List (Nat × Nat × List Int)} (h:InsO w base ls) (h5:ls.length=5):insB (insN (toI ls))=true∧(toI ls).length + totL (toI ls)≤1000000000:=by
 have h4:∀ q∈ls,In4 q.2.2:=fun q hq=>by
  obtain ⟨i,hi⟩:=List.mem_iff_getElem?.1 hq
  exact (h i q hi).2
 constructor
 ·unfold insB
  rw [insN_length,toI_len,h5,Bool.and_eq_true]
  refine ⟨rfl,?_⟩
  rw [List.all_eq_true]
  intro l hl
  unfold insN toI at hl
  rw [List.map_map] at hl
  obtain ⟨q,hq,rfl⟩:=List.mem_map.1 hl
  obtain ⟨e,hr⟩:=h4 q hq
  rw [Bool.and_eq_true]
  refine ⟨decide_eq_true e,?_⟩
  rw [List.all_eq_true]
  intro n hn
  have:=hr n hn
  exact inB_iff.2 (by omega)
 ·rw [toI_len,h5]
  have e:totL (toI ls)≤4 * ls.length:=by
   clear h h5
   unfold totL toI
   induction ls with
   | nil=>simp
   | cons q ls ih =>
    have h1:=(h4 q (List.mem_cons_self ..)).1
    have h2:=ih (fun p hp=>h4 p (List.mem_cons_of_mem _ hp))
    simp only [List.map_cons,List.sum_cons,List.length_cons] at h2 ⊢
    omega
  omega
theorem sec_top {L:List St} {ins:List (List Int)} {s a s' a' q:Int} (hi:insB ins=true) (hu:unrB L=true) (ht:tapeOkB s a=true) (ha:a≤50) (ht':tapeOkB s' a'=true) (ha':a'≤50) (q0:0≤q) (q1:q < 5) :
  secR L ins s a s' a' q=true∧secL L ins s a s' a' q=(runL ins (unrL L)).o:=by
 have hr:secR L ins s a s' a' q=true:=by
  unfold secR lbtB
  rw [hu,hi,inBits_len hi,inBits_bits,ht,ht',inB_iff.2 (by omega:0≤q∧q≤4),decide_eq_true (by omega:a≤800000),decide_eq_true (by omega:a'≤800000)]
  rfl
 refine ⟨hr,?_⟩
 unfold secL
 rw [if_pos hr]
 exact sec_run s a hi hu
theorem sameInts_same (A B:Option Addr) (c d:Nat) (xs:List Int) (w:World) (ha:Cells w w.heap.size A (ints xs)) (hc:Cells w w.heap.size B (ints xs)) (hn:xs.length≤1000000000) :
  Calls Tryz.prog 13 #[.slice A xs.length c,.slice B xs.length d] w fun e w'=>e=.returned (.bool true)∧Below w.heap.size w w':=by
 go_enter Tryz.func13,Tryz.ntmps13
 go_wp2
 go_loopw [5] (fun i wr=>∃ k:Nat,k≤xs.length∧i=.int .i64 k∧Below w.heap.size w wr) (fun i _=>xs.length - (intOf i).toNat)
 case atStart=>exact ⟨0,Nat.zero_le _,rfl,Below.refl _ _⟩
 case round =>
  obtain ⟨k,hk,rfl,hb⟩:=hrel
  by_cases hlt:k < xs.length
  ·obtain ⟨x,hx⟩:∃ x,xs[k]? = some x:=⟨_,List.getElem?_eq_getElem hlt⟩
   obtain ⟨b,off,rfl,hB,hcl⟩:=ha (by rw [ints_length]; omega)
   obtain ⟨b',off',rfl,hB',hcl'⟩:=hc (by rw [ints_length]; omega)
   have hcell:wr.cell? ⟨b,off + k,none⟩=some (.int .i64 x):=(hb.cell (p:=⟨b,off + k,none⟩) hB).trans (hcl k _ (ints_get hx))
   have hcell':wr.cell? ⟨b',off' + k,none⟩=some (.int .i64 x):=(hb.cell (p:=⟨b',off' + k,none⟩) hB').trans (hcl' k _ (ints_get hx))
   have HB:=hid hb
   have hlt':(k:Int) < (xs.length:Int):=by omega
   clear hcl hcl' ha hc hb hx
   go_wp2
   go_quiet (fail)
   go_wp2
   go_roundw
   case rel=>exact ⟨k + 1,by omega,by go_num,⟨HB.out.os,HB.out.tape,HB.out.output,HB.out.size,HB.out.block⟩⟩
   case measure=>simp [intOf]; omega
  ·obtain rfl:k=xs.length:=by omega
   go_wp2
   go_ret
   exact ⟨rfl,hb⟩
theorem runO_len (ins:List (List Int)) (U:List St):(runL ins U).o.length≤U.length:=by
 obtain ⟨U,hU⟩:∃ V,U=V:=⟨_,rfl⟩
 have h:∀ k,k≤U.length→(runL ins (U.take k)).o.length≤k:=by
  intro k
  induction k with
  | zero=>intro _; rw [List.take_zero]; exact Nat.le_refl _
  | succ k ih =>
   intro hk
   rw [take_any (List.getElem?_eq_getElem (by omega:k < U.length)),runL_snoc]
   have h1:=ih (by omega)
   obtain ⟨⟨r,o⟩,hs⟩:∃ x,runL ins (U.take k)=x:=⟨_,rfl⟩
   rw [hs] at h1 ⊢
   have h2:(runS ins ⟨r,o⟩ U[k]).o.length≤o.length + 1:=by
    unfold runS
    repeat' split
    all_goals simp
   dsimp only at h1
   omega
 have:=h U.length (Nat.le_refl _)
 rw [List.take_length] at this
 subst hU
 exact this
end Go.Proofs.YtihbaieiempjeaaGreat
