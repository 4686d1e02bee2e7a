/- Lemmas of the proof: Equal, Mux, Mul, Prow. -/
import Derived.Test.YtihbaieiempjeaaGreatD0
import Derived.Test.YtihbaieiempjeaaGreatD8
namespace Go.Proofs.YtihbaieiempjeaaGreat
open Go.RowKit
def eqW (n:Nat):Nat→List Int
 | 0=>[]
 | i + 1=>eqW n i ++ [((n + 2 * i + 1:Nat):Int)]
theorem eqW_4 (n:Nat):eqW n 4=[((n + 1:Nat):Int),((n + 3:Nat):Int),((n + 5:Nat):Int),((n + 7:Nat):Int)]:=by simp [eqW] <;> omega
def eqA (gs:List Gt) (ws bs:List Int) (j:Nat):List Gt :=
 eqTo gs ws bs 4 ++ [(⟨4,((gs.length + 1:Nat):Int),((gs.length + 3:Nat):Int)⟩:Gt),⟨4,((gs.length + 8:Nat):Int),((gs.length + 5:Nat):Int)⟩,⟨4,((gs.length + 9:Nat):Int),((gs.length + 7:Nat):Int)⟩].take j
theorem eqA_length (gs:List Gt) (ws bs:List Int) (j:Nat) (h:j≤3):(eqA gs ws bs j).length=gs.length + 8 + j:=by
 simp [eqA,eqTo_length]
 omega
def accW (n:Nat):Nat→Nat
 | 0=>n + 1
 | j + 1=>n + 8 + j
theorem eqA_succ (gs:List Gt) (ws bs:List Int) (m:Nat) (h:m < 3):eqA gs ws bs (m + 1)=eqA gs ws bs m ++ [⟨4,((accW gs.length m:Nat):Int),((gs.length + 2 * m + 3:Nat):Int)⟩]:=by
 match m,h with
 | 0,_=>simp [eqA,accW]
 | 1,_=>simp [eqA,accW] <;> omega
 | 2,_=>simp [eqA,accW] <;> omega
theorem eqW_at (n m:Nat) (h:m < 3):(eqW n 4)[m + 1]? = some ((n + 2 * m + 3:Nat):Int):=by
 rw [eqW_4]
 match m,h with
 | 0,_=>rfl
 | 1,_=>rfl
 | 2,_=>rfl
theorem accW_next (n m:Nat):accW n (m + 1)=n + 8 + m:=rfl
theorem eqG_A (gs:List Gt) (ws bs:List Int):eqG gs ws bs=eqA gs ws bs 3:=rfl
set_option linter.unusedVariables false in
set_option maxRecDepth 100000 in
set_option maxHeartbeats 3200000 in
theorem sEqual {lo bp bx ox cx bY oy cy:Nat} {gs:List Gt} {O:Value} {xs ys:List Int} (w:World) (h:Bld TS w lo bp gs O) (hs:gs.length≤5000) (hx:Wd w (some ⟨bx,ox,none⟩) xs) (hy:Wd w (some ⟨bY,oy,none⟩) ys) (hx4:xs.length=4) (hy4:ys.length=4) :
  Calls Tryz.prog 120 #[.pointer (some ⟨bp,0,none⟩),.slice (some ⟨bx,ox,none⟩) 4 cx,.slice (some ⟨bY,oy,none⟩) 4 cy] w fun e w'=>e=.returned (.int .i64 ((gs.length + 10:Nat):Int))∧Bld TS w' lo bp (eqG gs xs ys) O∧Stay TS lo w w':=by
 have H0:=hid (And.intro h (And.intro hx hy))
 clear h hx hy
 go_enter Tryz.func120,Tryz.ntmps120
 go_upto_region 2 with fail
 obtain ⟨w9,hw9⟩:∃ w9,w9=w.alloc (.cells #[] 3):=⟨_,rfl⟩
 have hb:Below w.heap.size w w9:=by rw [hw9]; exact (Below.refl _ _).alloc (Nat.le_refl _) _
 have ho9:RowI w9 w.heap.size 0 0 []:=by rw [hw9]; exact Row.new #[] (Nat.zero_le _) rfl rfl
 rw [←hw9]
 have H9:=hid (And.intro ((H0.out.1).below hb) (And.intro ((H0.out.2.1).below hb) (And.intro ((H0.out.2.2).below hb) (And.intro (ho9) ((Stay.of_below (T:=TS) (lo:=lo) hb))))))
 have hbk:=(H0.out.1).len
 have hl_bx:=(H0.out.2.1).lt
 have hl_bY:=(H0.out.2.2).lt
 clear ho9 hb hw9
 go_wp2_with fail
 go_loopw [7,8,9] (fun o i _ wr=>∃ (m g k:Nat),m≤4∧i=.int .i64 (m:Int)∧o=.slice (some ⟨g,0,none⟩) m k∧w.heap.size≤g∧Bld TS wr lo bp (eqTo gs xs ys m) O∧Wd wr (some ⟨bx,ox,none⟩) xs∧Wd wr (some ⟨bY,oy,none⟩) ys∧RowI wr g m k (eqW gs.length m)∧Stay TS lo w wr) (fun _ i _ _=>4 - (intOf i).toNat)
 case atStart=>exact ⟨0,w.heap.size,0,Nat.zero_le _,rfl,rfl,Nat.le_refl _,H9.out.1,H9.out.2.1,H9.out.2.2.1,H9.out.2.2.2.1,H9.out.2.2.2.2⟩
 case round =>
  clear H9
  obtain ⟨m,g,k,hm,rfl,rfl,hg,hB,hW0,hW1,hR,hS⟩:=hrel
  have zr:=hS.size
  by_cases hlt:m < 4
  ·have hlt':(m:Int) < 4:=by omega
   obtain ⟨x0,e0⟩:∃ x,xs[m]? = some x:=⟨_,List.getElem?_eq_getElem (by omega)⟩
   have d0:=hW0.cell e0
   have g0:=getD_at e0
   have lx0:bx < wr.heap.size:=by omega
   obtain ⟨x1,e1⟩:∃ x,ys[m]? = some x:=⟨_,List.getElem?_eq_getElem (by omega)⟩
   have d1:=hW1.cell e1
   have g1:=getD_at e1
   have lx1:bY < wr.heap.size:=by omega
   have hlen:(eqTo gs xs ys m).length=gs.length + 2 * m:=eqTo_length _ _ _ _
   obtain ⟨N1,hN1⟩:∃ N,gs.length + 2 * m=N:=⟨_,rfl⟩
   rw [hN1] at hlen
   have HT:=hid (show eqTo gs xs ys (m + 1)=eqTo gs xs ys m ++ [⟨3,x0,x1⟩,⟨5,((gs.length + 2 * m:Nat):Int),0⟩] from by rw [eqTo,g0,g1])
   have hB0:=hB
   have H:=hid (And.intro (hB) (And.intro (hW0) (And.intro (hW1) (And.intro (hR) (hS)))))
   clear hB hW0 hW1 hR hS e0 g0 e1 g1
   go_upto_region 5 with fail
   go_still_tail 9,(by kernel_rfl)
   go_wp2_with fail
   refine Calls.mono (sGate (n:=N1) _ _ _ _ (Bld.heap hB0 rfl) hlen (by omega)) ?_
   rintro e w7 ⟨rfl,h,t⟩
   have z3:=t.size
   have hS3:=H.out.2.2.2.2.onto t rfl rfl rfl rfl
   have zs3:=hS3.size
   have HR3:=hid (Row.onto H.out.2.2.2.1 t rfl (by decide) (by decide))
   have H3:=hid (And.intro (h) (And.intro ((Wd.onto H.out.2.1 t rfl (by decide))) (And.intro ((Wd.onto H.out.2.2.1 t rfl (by decide))) (hS3))))
   clear h t hS3 hB0 H d0 d1
   go_wp2_with fail
   refine Calls.mono (sGate (n:=N1 + 1) _ _ _ _ H3.out.1 (by simp [hlen]) (by omega)) ?_
   rintro e w74 ⟨rfl,h,t⟩
   have z4:=t.size
   have HR4:=hid (t.row HR3.out (by decide) (by decide))
   have H4:=hid (And.intro (h) (And.intro ((H3.out.2.1.stay t (by decide))) (And.intro ((H3.out.2.2.1.stay t (by decide))) ((H3.out.2.2.2.trans t)))))
   clear h t H3 HR3
   go_wp2_with (at_builtin; refine app_int rfl _ _ rfl rfl (HR4.out.alloc _) [((N1 + 1:Nat):Int)] rfl rfl (top_cells _ [_] _) (by omega) ?_)
   intro g' k' w8 h1 h2 h3
   have h2:=grown_alloc h2
   have hg':w.heap.size≤g':=by (try simp at h3); omega
   have H8:=hid (And.intro ((bld_cast (gs':=eqTo gs xs ys (m + 1)) (H4.out.1.grown h2 HR4.out (by decide)) (by rw [HT.out,←hN1]; simp))) (And.intro ((H4.out.2.1.grown h2 (by omega))) (And.intro ((H4.out.2.2.1.grown h2 (by omega))) (And.intro ((row_eq (ys:=eqW gs.length (m + 1)) h1 (by first | (rw [eqW,←hN1]; done) | (rw [eqW,←hN1]; simp)))) ((H4.out.2.2.2.grown h2 (by omega)))))))
   clear h1 h2 h3 H4 HR4
   go_wp2
   go_roundw
   case rel=>exact ⟨m + 1,g',k',by omega,by go_num,rfl,hg',H8.out.1,H8.out.2.1,H8.out.2.2.1,H8.out.2.2.2.1,H8.out.2.2.2.2⟩
   case measure=>simp [intOf]; omega
  ·obtain rfl:m=4:=by omega
   have H5:=hid (And.intro hB (And.intro hR hS))
   have zs:=hS.size
   clear hB hR hS hW0 hW1
   rw [show ((4:Nat):Int)=4 from rfl]
   obtain ⟨V0,hV0⟩:∃ V:Int,((gs.length + 1:Nat):Int)=V:=⟨_,rfl⟩
   have c0:wr.cell? ⟨g,0,none⟩=some (.int .i64 V0):=H5.out.2.1.cell (k:=0) (ints_get (by rw [eqW_4,hV0]; rfl))
   have HV0:=hid hV0
   clear hV0
   have gl:g < wr.heap.size:=H5.out.2.1.lt
   have hk:=H5.out.2.1.cap
   have hk1:k≠1:=by omega
   have hk2:(1:Int)≤(k:Int):=by omega
   go_wp2_with fail
   clear c0 gl
   go_loopw [10,11] (fun c i wr=>∃ (m q:Nat),m≤3∧q=m + 1∧i=.int .i64 (q:Int)∧(∃ C:Int,c=.int .i64 C∧C=((accW gs.length m:Nat):Int))∧Bld TS wr lo bp (eqA gs xs ys m) O∧RowI wr g 4 k (eqW gs.length 4)∧Stay TS lo w wr) (fun _ i _=>4 - (intOf i).toNat)
   case atStart=>exact ⟨0,1,Nat.zero_le _,rfl,rfl,⟨_,rfl,by rw [←HV0.out]; rfl⟩,bld_cast H5.out.1 (by simp [eqA]),H5.out.2.1,H5.out.2.2⟩
   case round =>
    clear H5
    obtain ⟨m,q,hm,hq,rfl,⟨C,rfl,hC⟩,hB,hR,hS⟩:=hrel
    have HQ:=hid hq
    have HC:=hid hC
    have zq:=hS.size
    obtain ⟨N1,hN1⟩:∃ N,gs.length + 8 + m=N:=⟨_,rfl⟩
    have hlen:=eqA_length gs xs ys m hm
    rw [hN1] at hlen
    by_cases hlt:m < 3
    ·have hlt':(m:Int) < 3:=by omega
     obtain ⟨V,hV⟩:∃ V:Int,((gs.length + 2 * m + 3:Nat):Int)=V:=⟨_,rfl⟩
     have c1:wr.cell? ⟨g,q,none⟩=some (.int .i64 V):=by
      have c0:=hR.cell (k:=m + 1) (ints_get (eqW_at gs.length _ hlt))
      rw [hV] at c0
      subst hq; exact c0
     have gl:g < wr.heap.size:=hR.lt
     have hlt2:(q:Int) < 4:=by omega
     clear hq
     have HV:=hid hV
     have H:=hid (And.intro hB (And.intro hR hS))
     have hB0:=hB
     clear hB hR hS hC hV
     go_wp2_with fail
     refine Calls.mono (sGate (n:=N1) _ _ _ _ (Bld.heap hB0 rfl) hlen (by omega)) ?_
     rintro e w5 ⟨rfl,h,t⟩
     have H6:=hid (And.intro (bld_cast (gs':=eqA gs xs ys (m + 1)) h (by rw [eqA_succ _ _ _ _ hlt,HC.out,HV.out])) (And.intro (t.row H.out.2.1 (by decide) (by decide)) (H.out.2.2.trans t)))
     clear h t hB0 H c1 gl hlen
     go_wp2
     go_roundw
     case rel =>
      have:=HQ.out
      exact ⟨m + 1,q + 1,by omega,by omega,by go_num,⟨_,rfl,by rw [accW_next]; omega⟩,H6.out.1,H6.out.2.1,H6.out.2.2⟩
     case measure=>have:=HQ.out; simp [intOf]; omega
    ·obtain rfl:m=3:=by omega
     have hq3:q=4:=by omega
     subst hq3
     clear hq
     have hC3:C=((gs.length + 10:Nat):Int):=hC
     have hB5:Bld TS wr lo bp (eqG gs xs ys) O:=hB
     have H5:=hid (And.intro hB5 hS)
     clear hB5
     have HC3:=hid hC3
     clear hB hR hS hC hC3
     go_wp2
     go_returns
     exact ⟨by first | rfl | (simp; done) | (rw [HC3.out]; done) | (simp [HC3.out]; done),H5.out.1,H5.out.2⟩
set_option linter.unusedVariables false in
set_option maxRecDepth 100000 in
set_option maxHeartbeats 3200000 in
theorem iWordEqual {gs:List Gt} {G O:Option Addr} {cg co bx ox cx bY oy cy:Nat} {xs ys:List Int} (w:World) (hg:w.ownsRow 0 TG 3 (.slice G gs.length cg) gs.length (ints (flatG gs))) (ho:w.ownsRow 0 3 1 (.slice O 0 co) 0 (ints [])) (hok:gatesB 0 gs=true) (hl:gs.length≤5000)
  (hx:Wd w (some ⟨bx,ox,none⟩) xs) (hy:Wd w (some ⟨bY,oy,none⟩) ys) (hwx:wordB4 gs.length xs=true) (hwy:wordB4 gs.length ys=true) :
  Calls Tryz.prog 165 #[.agg #[.slice G gs.length cg,.slice O 0 co],.slice (some ⟨bx,ox,none⟩) 4 cx,.slice (some ⟨bY,oy,none⟩) 4 cy] w (GivesI w (eqG gs xs ys) (gs.length + 10:Nat)):=by
 have HX:=hid (And.intro hx hy)
 have hx4:=(wordB4_at hwx).1
 have hy4:=(wordB4_at hwy).1
 clear hx hy
 go_enter Tryz.func165,Tryz.ntmps165
 have b_0:=(Below.refl w.heap.size w)
 have s_0:=b_0.size
 have og_in:=own_in hg
 have og_0:=hg
 clear hg
 have oo_in:=own_in ho
 have oo_0:=ho
 clear ho
 go_upto_region 1 with fail
 refine wp_forget2 (w0:=w) (B:=w.heap.size) (b0:=w.heap.size) (t0:=40) (c0:=#[.slice G gs.length cg,.slice O 0 co]) (b1:=w.heap.size + 1) (t1:=40) (c1:=#[.slice none 0 0,.slice none 0 0]) ?_ ?_ ?_ ?_
 (focus exact blkcBy)
 (focus exact blkcBy)
 (focus (exact belBy))
 intro w1 x_1 r_1 hX1
 have sX1:=hX1.size
 have x_lt:=x_1.lt
 have r_lt:=r_1.lt
 have b_1:=b_0.trans (hX1.mono (by omega))
 have og_1:=own_below og_0 hX1
 have oo_1:=own_below oo_0 hX1
 clear og_0 oo_0 b_0 hX1
 have cell_x:=x_1.cell
 have froz_x:=x_1.frozen
 have lt_x:=x_1.lt
 have cell_r:=r_1.cell
 have froz_r:=r_1.frozen
 have lt_r:=r_1.lt
 go_wp2_with fail
 refine calls_forget0 (W:=w1) ?_ ?_
 (focus (exact belBy))
 intro X2 hX2
 have sX2:=hX2.size
 refine (iCopyC _ _ _ _ _ _ (flatG gs) [] _ (own_below og_1 hX2) (own_below oo_1 hX2) (by omega) (by omega)).mono ?_
 rintro e w2 ⟨G',cg',O',co',rfl,pg_2,po_2,hb2⟩
 have s2:=hb2.size
 have hT2:=hX2.trans (hb2.mono sX2)
 have b_2:=b_1.trans (hT2.mono (by omega))
 have og_2:=own_below og_1 hT2
 have oo_2:=own_below oo_1 hT2
 have x_2:=Blk.past hT2 x_1
 have r_2:=Blk.past hT2 r_1
 have pg_in:=own_in pg_2
 have po_in:=own_in po_2
 clear og_1 oo_1 x_1 r_1 b_1 cell_x froz_x lt_x cell_r froz_r lt_r hX2 hT2 hb2
 have cell_x:=x_2.cell
 have froz_x:=x_2.frozen
 have lt_x:=x_2.lt
 have cell_r:=r_2.cell
 have froz_r:=r_2.frozen
 have lt_r:=r_2.lt
 go_upto_region 2 with fail
 refine wp_forget1 (w0:=w2) (B:=w2.heap.size) (b0:=w2.heap.size) (t0:=159) (c0:=#[.slice G' gs.length cg',.slice O' 0 co']) ?_ ?_ ?_
 (focus exact blkcBy)
 (focus (exact belBy))
 intro w3 u_3 hX3
 have sX3:=hX3.size
 have u_lt:=u_3.lt
 have b_3:=b_2.trans (hX3.mono (by omega))
 have og_3:=own_below og_2 hX3
 have oo_3:=own_below oo_2 hX3
 have pg_3:=own_below pg_2 hX3
 have po_3:=own_below po_2 hX3
 have x_3:=Blk.past hX3 x_2
 have r_3:=Blk.past hX3 r_2
 clear og_2 oo_2 pg_2 po_2 x_2 r_2 b_2 cell_x froz_x lt_x cell_r froz_r lt_r hX3
 have cell_x:=x_3.cell
 have froz_x:=x_3.frozen
 have lt_x:=x_3.lt
 have cell_r:=r_3.cell
 have froz_r:=r_3.frozen
 have lt_r:=r_3.lt
 have cell_u:=u_3.cell
 have froz_u:=u_3.frozen
 have lt_u:=u_3.lt
 go_wp2_with fail
 refine calls_forget1 (W:=w3) (b0:=w3.heap.size) (t0:=30) (c0:=#[.slice (some ⟨bx,ox,none⟩) 4 cx,.slice (some ⟨bY,oy,none⟩) 4 cy]) ?_ ?_ ?_
 (focus exact blkcBy)
 (focus (exact belBy))
 intro X4 q_n hX4
 have sX4:=hX4.size
 have q_lt:=q_n.lt
 refine (iIsWordOf G O _ cg co 2 2 gs [.slice (some ⟨bx,ox,none⟩) 4 cx,.slice (some ⟨bY,oy,none⟩) 4 cy] _ (Cells.of_own (own_below og_3 hX4)) hok (by omega) rfl (cells_vals q_n) (words2 (HX.out.1.below (b_3.trans (hX4.mono (by omega)))) (HX.out.2.below (b_3.trans (hX4.mono (by omega)))) hwx hwy) (by omega)).mono ?_
 rintro e w4 ⟨rfl,hb4⟩
 have s4:=hb4.size
 have hT4:=hX4.trans (hb4.mono sX4)
 have b_4:=b_3.trans (hT4.mono (by omega))
 have og_4:=own_below og_3 hT4
 have oo_4:=own_below oo_3 hT4
 have pg_4:=own_below pg_3 hT4
 have po_4:=own_below po_3 hT4
 have x_4:=Blk.past hT4 x_3
 have r_4:=Blk.past hT4 r_3
 have u_4:=Blk.past hT4 u_3
 have q_4:=Blk.past hb4 q_n
 clear og_3 oo_3 pg_3 po_3 x_3 r_3 u_3 b_3 cell_x froz_x lt_x cell_r froz_r lt_r cell_u froz_u lt_u q_n hX4 hT4 hb4
 have cell_x:=x_4.cell
 have froz_x:=x_4.frozen
 have lt_x:=x_4.lt
 have cell_r:=r_4.cell
 have froz_r:=r_4.frozen
 have lt_r:=r_4.lt
 have cell_u:=u_4.cell
 have froz_u:=u_4.frozen
 have lt_u:=u_4.lt
 have cell_q:=q_4.cell
 have froz_q:=q_4.frozen
 have lt_q:=q_4.lt
 clear cell_q froz_q lt_q
 clear q_4
 clear cell_x froz_x lt_x
 clear x_4
 clear og_4
 clear oo_4
 have HB:=hid (show Bld TI w4 w.heap.size w2.heap.size gs (.slice O' 0 co') from ⟨G',cg',u_4,by omega,own_weak pg_4 (by omega)⟩)
 have HR:=hid (And.intro r_4 (And.intro (own_weak (base':=w.heap.size) po_4 (by omega)) b_4))
 have zw:w.heap.size≤w4.heap.size:=b_4.size
 have zr:w.heap.size + 1 < w4.heap.size:=r_4.lt
 have HX4:=hid (And.intro (HX.out.1.below b_4) (HX.out.2.below b_4))
 clear pg_4 po_4 r_4 u_4 b_4 cell_r froz_r lt_r cell_u froz_u lt_u pg_in po_in
 go_upto_region 5 with fail
 obtain ⟨w9,hw9⟩:∃ w9,w9=w4.alloc (.cells #[] 3):=⟨_,rfl⟩
 have hb:Below w4.heap.size w4 w9:=by rw [hw9]; exact (Below.refl _ _).alloc (Nat.le_refl _) _
 have ho9:RowI w9 w4.heap.size 0 0 []:=by rw [hw9]; exact Row.new #[] (Nat.zero_le _) rfl rfl
 rw [←hw9]
 have H9:=hid (And.intro ((HB.out).below hb) (And.intro ((HX4.out.1).below hb) (And.intro ((HX4.out.2).below hb) (And.intro (ho9) ((Stay.of_below (T:=TI) (lo:=w.heap.size) hb))))))
 have hbk:=(HB.out).len
 have hl_bx:=(HX4.out.1).lt
 have hl_bY:=(HX4.out.2).lt
 clear ho9 hb hw9
 go_wp2_with fail
 go_loopw [9,10,31] (fun o _ i wr=>∃ (m g k:Nat),m≤4∧i=.int .i64 (m:Int)∧o=.slice (some ⟨g,0,none⟩) m k∧w4.heap.size≤g∧Bld TI wr w.heap.size w2.heap.size (eqTo gs xs ys m) (.slice O' 0 co')∧Wd wr (some ⟨bx,ox,none⟩) xs∧Wd wr (some ⟨bY,oy,none⟩) ys∧RowI wr g m k (eqW gs.length m)∧Stay TI w.heap.size w4 wr) (fun _ _ i _=>4 - (intOf i).toNat)
 case atStart=>exact ⟨0,w4.heap.size,0,Nat.zero_le _,rfl,rfl,Nat.le_refl _,H9.out.1,H9.out.2.1,H9.out.2.2.1,H9.out.2.2.2.1,H9.out.2.2.2.2⟩
 case round =>
  clear H9
  obtain ⟨m,g,k,hm,rfl,rfl,hg,hB,hW0,hW1,hR,hS⟩:=hrel
  have zr:=hS.size
  by_cases hlt:m < 4
  ·have hlt':(m:Int) < 4:=by omega
   obtain ⟨x0,e0⟩:∃ x,xs[m]? = some x:=⟨_,List.getElem?_eq_getElem (by omega)⟩
   have d0:=hW0.cell e0
   have g0:=getD_at e0
   have lx0:bx < wr.heap.size:=by omega
   obtain ⟨x1,e1⟩:∃ x,ys[m]? = some x:=⟨_,List.getElem?_eq_getElem (by omega)⟩
   have d1:=hW1.cell e1
   have g1:=getD_at e1
   have lx1:bY < wr.heap.size:=by omega
   have hlen:(eqTo gs xs ys m).length=gs.length + 2 * m:=eqTo_length _ _ _ _
   obtain ⟨N1,hN1⟩:∃ N,gs.length + 2 * m=N:=⟨_,rfl⟩
   rw [hN1] at hlen
   have HT:=hid (show eqTo gs xs ys (m + 1)=eqTo gs xs ys m ++ [⟨3,x0,x1⟩,⟨5,((gs.length + 2 * m:Nat):Int),0⟩] from by rw [eqTo,g0,g1])
   have hB0:=hB
   have H:=hid (And.intro (hB) (And.intro (hW0) (And.intro (hW1) (And.intro (hR) (hS)))))
   have hnb:N1≤100000:=by omega
   have hti:3≠TI:=by decide
   have hX0:=hW0
   have hX1:=hW1
   have hR0:=hid hR
   clear hB hW0 hW1 hR hS g0 g1
   go_upto_region 8 with fail
   have ne0:bx≠g:=by omega
   have ne1:bY≠g:=by omega
   have hm6:m + 1≤1000000:=by omega
   have htg:3≠TG:=by decide
   have hR0:=hR0.out
   have hlen2:(eqTo gs xs ys m ++ [(⟨3,x0,x1⟩:Gt)]).length=N1 + 1:=by rw [List.length_append,hlen]; rfl
   have hnb2:N1 + 1≤100000:=by omega
   go_region_held3 (fun w'=>w'.cell? ⟨bx,ox + m,none⟩=some (.int .i64 x0)∧w'.cell? ⟨bY,oy + m,none⟩=some (.int .i64 x1)) (first | exact ⟨d0,d1⟩ | exact ⟨d0',d1'⟩ | exact ⟨d0'' _,d1'' _⟩ | exact ⟨d0z,d1z⟩ | exact ⟨d0q,d1q⟩ | exact ⟨d0q' _,d1q' _⟩) (first | (go_at_call 158; refine Calls.mono (iGate (n:=N1) _ _ _ _ (Bld.heap hB0 rfl) hlen hnb) ?_; rintro e w7 ⟨rfl,h,t⟩; have HR3:=hid (Row.onto hR0 t rfl hti htg); have d0':=(Wd.onto hX0 t rfl hti).cell e0; have d0'':=fun O=>((Wd.onto hX0 t rfl hti).below ((Below.refl w7.heap.size w7).alloc (Nat.le_refl _) O)).cell e0; have d1':=(Wd.onto hX1 t rfl hti).cell e1; have d1'':=fun O=>((Wd.onto hX1 t rfl hti).below ((Below.refl w7.heap.size w7).alloc (Nat.le_refl _) O)).cell e1) | (go_at_call 158; refine Calls.mono (iGate (n:=N1 + 1) _ _ _ _ h hlen2 hnb2) ?_; rintro e w71 ⟨rfl,h7,t7⟩; have HR4:=hid (t7.row HR3.out hti htg); have d0q:=((Wd.onto hX0 t rfl hti).stay t7 hti).cell e0; have d0q':=fun O=>(((Wd.onto hX0 t rfl hti).stay t7 hti).below ((Below.refl w71.heap.size w71).alloc (Nat.le_refl _) O)).cell e0; have d1q:=((Wd.onto hX1 t rfl hti).stay t7 hti).cell e1; have d1q':=fun O=>(((Wd.onto hX1 t rfl hti).stay t7 hti).below ((Below.refl w71.heap.size w71).alloc (Nat.le_refl _) O)).cell e1) | (refine app_int_step rfl _ _ rfl rfl (HR4.out.alloc _) [((N1 + 1:Nat):Int)] rfl rfl (top_cells _ [_] _) Nat.one_pos hm6 ?_; intro g' k' w8 h1 h2 h3; have h2:=grown_alloc h2; have d0z:=(((Wd.onto hX0 t rfl hti).stay t7 hti).grown h2 ne0).cell e0; have d1z:=(((Wd.onto hX1 t rfl hti).stay t7 hti).grown h2 ne1).cell e1))
   all_goals
    have z3:=t.size
    have hS3:=H.out.2.2.2.2.onto t rfl rfl rfl rfl
    have zs3:=hS3.size
    have H3:=hid (And.intro (h) (And.intro ((Wd.onto H.out.2.1 t rfl (by decide))) (And.intro ((Wd.onto H.out.2.2.1 t rfl (by decide))) (hS3))))
    have H4:=hid (And.intro (h7) (And.intro (((Wd.onto H.out.2.1 t rfl (by decide)).stay t7 (by decide))) (And.intro (((Wd.onto H.out.2.2.1 t rfl (by decide)).stay t7 (by decide))) ((hS3.trans t7)))))
    have z7:=t7.size
    clear h7 t7 H3 HR3 hlen2 d0q d0q' d1q d1q'
    clear h t hS3 hB0 H d0 d1 hR0 d0' d0'' d0z e0 hX0 d1' d1'' d1z e1 hX1
    have hg':w4.heap.size≤g':=by (try simp at h3); omega
    have H8:=hid (And.intro ((bld_cast (gs':=eqTo gs xs ys (m + 1)) (H4.out.1.grown h2 HR4.out (by decide)) (by rw [HT.out,←hN1]; simp))) (And.intro ((H4.out.2.1.grown h2 (by omega))) (And.intro ((H4.out.2.2.1.grown h2 (by omega))) (And.intro ((row_eq (ys:=eqW gs.length (m + 1)) h1 (by first | (rw [eqW,←hN1]; done) | (rw [eqW,←hN1]; simp)))) ((H4.out.2.2.2.grown h2 (by omega)))))))
    clear h1 h2 h3 H4 HR4
    go_wp2
    go_roundw
    case rel=>exact ⟨m + 1,g',k',by omega,by go_num,rfl,hg',H8.out.1,H8.out.2.1,H8.out.2.2.1,H8.out.2.2.2.1,H8.out.2.2.2.2⟩
    case measure=>simp [intOf]; omega
  ·obtain rfl:m=4:=by omega
   have H5:=hid (And.intro hB (And.intro hR hS))
   have zs:=hS.size
   clear hB hR hS hW0 hW1
   rw [show ((4:Nat):Int)=4 from rfl]
   obtain ⟨V0,hV0⟩:∃ V:Int,((gs.length + 1:Nat):Int)=V:=⟨_,rfl⟩
   have c0:wr.cell? ⟨g,0,none⟩=some (.int .i64 V0):=H5.out.2.1.cell (k:=0) (ints_get (by rw [eqW_4,hV0]; rfl))
   have HV0:=hid hV0
   clear hV0
   have gl:g < wr.heap.size:=H5.out.2.1.lt
   have hk:=H5.out.2.1.cap
   have hk1:k≠1:=by omega
   have hk2:(1:Int)≤(k:Int):=by omega
   go_wp2_with fail
   clear c0 gl
   go_loopw [11,13,56] (fun c _ i wr=>∃ (m q:Nat),m≤3∧q=m∧i=.int .i64 (m:Int)∧(∃ C:Int,c=.int .i64 C∧C=((accW gs.length m:Nat):Int))∧Bld TI wr w.heap.size w2.heap.size (eqA gs xs ys m) (.slice O' 0 co')∧RowI wr g 4 k (eqW gs.length 4)∧Stay TI w.heap.size w4 wr) (fun _ _ i _=>4 - (intOf i).toNat)
   case atStart=>exact ⟨0,0,Nat.zero_le _,rfl,rfl,⟨_,rfl,by rw [←HV0.out]; rfl⟩,bld_cast H5.out.1 (by simp [eqA]),H5.out.2.1,H5.out.2.2⟩
   case round =>
    clear H5
    obtain ⟨m,q,hm,hq,rfl,⟨C,rfl,hC⟩,hB,hR,hS⟩:=hrel
    have HQ:=hid hq
    have HC:=hid hC
    have zq:=hS.size
    obtain ⟨N1,hN1⟩:∃ N,gs.length + 8 + m=N:=⟨_,rfl⟩
    have hlen:=eqA_length gs xs ys m hm
    rw [hN1] at hlen
    by_cases hlt:m < 3
    ·have hlt':(m:Int) < 3:=by omega
     obtain ⟨V,hV⟩:∃ V:Int,((gs.length + 2 * m + 3:Nat):Int)=V:=⟨_,rfl⟩
     have c1:wr.cell? ⟨g,1 + m,none⟩=some (.int .i64 V):=by
      have c0:=hR.cell (k:=m + 1) (ints_get (eqW_at gs.length _ hlt))
      rw [hV] at c0
      rw [Nat.add_comm]; exact c0
     have gl:g < wr.heap.size:=hR.lt
     have hlt2:(m:Int) < 3:=by omega
     clear hq
     have HV:=hid hV
     have H:=hid (And.intro hB (And.intro hR hS))
     have hB0:=hB
     clear hB hR hS hC hV
     go_wp2_with fail
     refine Calls.mono (iGate (n:=N1) _ _ _ _ (Bld.heap hB0 rfl) hlen (by omega)) ?_
     rintro e w5 ⟨rfl,h,t⟩
     have H6:=hid (And.intro (bld_cast (gs':=eqA gs xs ys (m + 1)) h (by rw [eqA_succ _ _ _ _ hlt,HC.out,HV.out])) (And.intro (t.row H.out.2.1 (by decide) (by decide)) (H.out.2.2.trans t)))
     clear h t hB0 H c1 gl hlen
     go_wp2
     go_roundw
     case rel =>
      have:=HQ.out
      exact ⟨m + 1,q + 1,by omega,by omega,by go_num,⟨_,rfl,by rw [accW_next]; omega⟩,H6.out.1,H6.out.2.1,H6.out.2.2⟩
     case measure=>have:=HQ.out; simp [intOf]; omega
    ·obtain rfl:m=3:=by omega
     have hq3:q=3:=by omega
     subst hq3
     clear hq
     have hC3:C=((gs.length + 10:Nat):Int):=hC
     have hB5:Bld TI wr w.heap.size w2.heap.size (eqG gs xs ys) (.slice O' 0 co'):=hB
     have H5:=hid (And.intro hB5 hS)
     clear hB5
     have HC3:=hid hC3
     clear hB hR hS hC hC3
     obtain ⟨Az,cz,hu,hlo,hgz⟩:=H5.out.1
     have cell_u:=hu.cell
     have froz_u:=hu.frozen
     have lt_u:=hu.lt
     have hr:=H5.out.2.blk HR.out.1 (by decide) (by decide)
     have cell_r:=hr.cell
     have froz_r:=hr.frozen
     have lt_r:=hr.lt
     have hlz:(eqG gs xs ys).length=gs.length + 11:=by rw [eqG_A,eqA_length _ _ _ _ (Nat.le_refl _)]
     have HF:=hid (And.intro hlz (And.intro hgz (And.intro (H5.out.2.own HR.out.2.1 (by decide) (by decide)) (And.intro (HR.out.2.2.trans (H5.out.2.below zw)) hr))))
     have hne:w2.heap.size≠w.heap.size + 1:=by omega
     rw [hlz] at cell_u
     clear hu hgz hr hlz
     go_wp2
     ((try simp only [Exit.inBlock,Exit.then]); apply bodyPost_ret0; focus ((try simp only [results,Tryz.results165]); (try go_simp); (try rfl)))
     refine gives_i (HF.out.1.trans (by first | rfl | omega)) HF.out.2.1 HF.out.2.2.1 HF.out.2.2.2.1 HF.out.2.2.2.2 (by omega) (by exact tchBy) (by first | rfl | (simp; done) | (rw [HC3.out]; done) | (simp [HC3.out]; done))
open Go.RowKit
theorem iWithinOk (n hi:Int) (w:World) (h:0≤n∧n≤hi):Calls Tryz.prog 56 #[.int .i64 n,.int .i64 0,.int .i64 hi] w fun e w'=>e=.returned (.bool true)∧w=w':=by
 have e:inB n 0 hi=true:=inB_iff.2 h
 rw [←e]
 exact iWithin n 0 hi w
set_option linter.unusedVariables false in
set_option maxRecDepth 100000 in
set_option maxHeartbeats 3200000 in
theorem sMux {lo bp bx ox cx bY oy cy:Nat} {gs:List Gt} {O:Value} {xs ys:List Int} (z:Int) (w:World) (h:Bld TS w lo bp gs O) (hs:gs.length≤5000) (hx:Wd w (some ⟨bx,ox,none⟩) xs) (hy:Wd w (some ⟨bY,oy,none⟩) ys) (hx4:xs.length=4) (hy4:ys.length=4) :
  Calls Tryz.prog 121 #[.pointer (some ⟨bp,0,none⟩),.int .i64 z,.slice (some ⟨bx,ox,none⟩) 4 cx,.slice (some ⟨bY,oy,none⟩) 4 cy] w fun e w'=>∃ g k,e=.returned (.slice (some ⟨g,0,none⟩) 4 k)∧w.heap.size≤g∧RowI w' g 4 k (muxW gs.length 4)∧Bld TS w' lo bp (muxTo gs z xs ys 4) O∧Stay TS lo w w':=by
 have H0:=hid (And.intro h (And.intro hx hy))
 clear h hx hy
 go_enter Tryz.func121,Tryz.ntmps121
 go_upto_region 2 with fail
 obtain ⟨w9,hw9⟩:∃ w9,w9=w.alloc (.cells #[] 3):=⟨_,rfl⟩
 have hb:Below w.heap.size w w9:=by rw [hw9]; exact (Below.refl _ _).alloc (Nat.le_refl _) _
 have ho9:RowI w9 w.heap.size 0 0 []:=by rw [hw9]; exact Row.new #[] (Nat.zero_le _) rfl rfl
 rw [←hw9]
 have H9:=hid (And.intro ((H0.out.1).below hb) (And.intro ((H0.out.2.1).below hb) (And.intro ((H0.out.2.2).below hb) (And.intro (ho9) ((Stay.of_below (T:=TS) (lo:=lo) hb))))))
 have hbk:=(H0.out.1).len
 have hl_bx:=(H0.out.2.1).lt
 have hl_bY:=(H0.out.2.2).lt
 clear ho9 hb hw9
 go_wp2_with fail
 go_loopw [9,10,11,12] (fun o i _ _ wr=>∃ (m g k:Nat),m≤4∧i=.int .i64 (m:Int)∧o=.slice (some ⟨g,0,none⟩) m k∧w.heap.size≤g∧Bld TS wr lo bp (muxTo gs z xs ys m) O∧Wd wr (some ⟨bx,ox,none⟩) xs∧Wd wr (some ⟨bY,oy,none⟩) ys∧RowI wr g m k (muxW gs.length m)∧Stay TS lo w wr) (fun _ i _ _ _=>4 - (intOf i).toNat)
 case atStart=>exact ⟨0,w.heap.size,0,Nat.zero_le _,rfl,rfl,Nat.le_refl _,H9.out.1,H9.out.2.1,H9.out.2.2.1,H9.out.2.2.2.1,H9.out.2.2.2.2⟩
 case round =>
  clear H9
  obtain ⟨m,g,k,hm,rfl,rfl,hg,hB,hW0,hW1,hR,hS⟩:=hrel
  have zr:=hS.size
  by_cases hlt:m < 4
  ·have hlt':(m:Int) < 4:=by omega
   obtain ⟨x0,e0⟩:∃ x,xs[m]? = some x:=⟨_,List.getElem?_eq_getElem (by omega)⟩
   have d0:=hW0.cell e0
   have g0:=getD_at e0
   have lx0:bx < wr.heap.size:=by omega
   obtain ⟨x1,e1⟩:∃ x,ys[m]? = some x:=⟨_,List.getElem?_eq_getElem (by omega)⟩
   have d1:=hW1.cell e1
   have g1:=getD_at e1
   have lx1:bY < wr.heap.size:=by omega
   have hlen:(muxTo gs z xs ys m).length=gs.length + 3 * m:=muxTo_length _ _ _ _ _
   obtain ⟨N1,hN1⟩:∃ N,gs.length + 3 * m=N:=⟨_,rfl⟩
   rw [hN1] at hlen
   have HT:=hid (show muxTo gs z xs ys (m + 1)=muxTo gs z xs ys m ++ [⟨3,x0,x1⟩,⟨4,z,((gs.length + 3 * m:Nat):Int)⟩,⟨3,((gs.length + 3 * m + 1:Nat):Int),x1⟩] from by rw [muxTo,g0,g1])
   have hB0:=hB
   have H:=hid (And.intro (hB) (And.intro (hW0) (And.intro (hW1) (And.intro (hR) (hS)))))
   clear hB hW0 hW1 hR hS g0 g1
   go_upto_region 5 with fail
   go_still_tail 9,(by kernel_rfl)
   go_wp2_with fail
   refine Calls.mono (sGate (n:=N1) _ _ _ _ (Bld.heap hB0 rfl) hlen (by omega)) ?_
   rintro e w7 ⟨rfl,h,t⟩
   have z3:=t.size
   have hS3:=H.out.2.2.2.2.onto t rfl rfl rfl rfl
   have zs3:=hS3.size
   have HR3:=hid (Row.onto H.out.2.2.2.1 t rfl (by decide) (by decide))
   have H3:=hid (And.intro (h) (And.intro ((Wd.onto H.out.2.1 t rfl (by decide))) (And.intro ((Wd.onto H.out.2.2.1 t rfl (by decide))) (hS3))))
   clear h t hS3 hB0 H d0 d1
   have d0:=(H3.out.2.1).cell e0
   have d1:=(H3.out.2.2.1).cell e1
   have lx0:=(H3.out.2.1).lt
   have lx1:=(H3.out.2.2.1).lt
   have hB0:=H3.out.1
   go_wp2_with fail
   refine Calls.mono (sGate (n:=N1 + 1) _ _ _ _ (Bld.heap hB0 rfl) (by simp [hlen]) (by omega)) ?_
   rintro e w74 ⟨rfl,h,t⟩
   have z4:=t.size
   have HR4:=hid (t.row HR3.out (by decide) (by decide))
   have H4:=hid (And.intro (h) (And.intro ((H3.out.2.1.stay t (by decide))) (And.intro ((H3.out.2.2.1.stay t (by decide))) ((H3.out.2.2.2.trans t)))))
   clear h t H3 HR3 d0 d1 hB0
   have d0:=(H4.out.2.1).cell e0
   have d1:=(H4.out.2.2.1).cell e1
   have lx0:=(H4.out.2.1).lt
   have lx1:=(H4.out.2.2.1).lt
   have hB0:=H4.out.1
   go_wp2_with fail
   refine Calls.mono (sGate (n:=N1 + 2) _ _ _ _ (Bld.heap hB0 rfl) (by simp [hlen]) (by omega)) ?_
   rintro e w75 ⟨rfl,h,t⟩
   have z5:=t.size
   have HR5:=hid (t.row HR4.out (by decide) (by decide))
   have H5:=hid (And.intro (h) (And.intro ((H4.out.2.1.stay t (by decide))) (And.intro ((H4.out.2.2.1.stay t (by decide))) ((H4.out.2.2.2.trans t)))))
   clear h t H4 HR4 d0 d1 hB0
   go_wp2_with (at_builtin; refine app_int rfl _ _ rfl rfl (HR5.out.alloc _) [((N1 + 2:Nat):Int)] rfl rfl (top_cells _ [_] _) (by omega) ?_)
   intro g' k' w8 h1 h2 h3
   have h2:=grown_alloc h2
   have hg':w.heap.size≤g':=by (try simp at h3); omega
   have H8:=hid (And.intro ((bld_cast (gs':=muxTo gs z xs ys (m + 1)) (H5.out.1.grown h2 HR5.out (by decide)) (by rw [HT.out,←hN1]; simp))) (And.intro ((H5.out.2.1.grown h2 (by omega))) (And.intro ((H5.out.2.2.1.grown h2 (by omega))) (And.intro ((row_eq (ys:=muxW gs.length (m + 1)) h1 (by first | (rw [muxW,←hN1]; done) | (rw [muxW,←hN1]; simp)))) ((H5.out.2.2.2.grown h2 (by omega)))))))
   clear h1 h2 h3 H5 HR5
   go_wp2
   go_roundw
   case rel=>exact ⟨m + 1,g',k',by omega,by go_num,rfl,hg',H8.out.1,H8.out.2.1,H8.out.2.2.1,H8.out.2.2.2.1,H8.out.2.2.2.2⟩
   case measure=>simp [intOf]; omega
  ·obtain rfl:m=4:=by omega
   have H:=hid (And.intro hB (And.intro hR hS))
   clear hB hR hS hW0 hW1
   go_wp2
   go_returns
   exact ⟨g,k,rfl,hg,H.out.2.1,H.out.1,H.out.2.2⟩
set_option linter.unusedVariables false in
set_option maxRecDepth 100000 in
set_option maxHeartbeats 3200000 in
theorem iWordMux {gs:List Gt} {G O:Option Addr} {cg co bx ox cx bY oy cy:Nat} {xs ys:List Int} (z:Int) (w:World) (hg:w.ownsRow 0 TG 3 (.slice G gs.length cg) gs.length (ints (flatG gs))) (ho:w.ownsRow 0 3 1 (.slice O 0 co) 0 (ints [])) (hok:gatesB 0 gs=true) (hl:gs.length≤5000) (hz:0≤z∧z≤(gs.length:Int) - 1)
  (hx:Wd w (some ⟨bx,ox,none⟩) xs) (hy:Wd w (some ⟨bY,oy,none⟩) ys) (hwx:wordB4 gs.length xs=true) (hwy:wordB4 gs.length ys=true) :
  Calls Tryz.prog 166 #[.agg #[.slice G gs.length cg,.slice O 0 co],.int .i64 z,.slice (some ⟨bx,ox,none⟩) 4 cx,.slice (some ⟨bY,oy,none⟩) 4 cy] w (GivesW w (muxTo gs z xs ys 4) (muxW gs.length 4)):=by
 have HX:=hid (And.intro hx hy)
 have hx4:=(wordB4_at hwx).1
 have hy4:=(wordB4_at hwy).1
 clear hx hy
 go_enter Tryz.func166,Tryz.ntmps166
 have b_0:=(Below.refl w.heap.size w)
 have s_0:=b_0.size
 have og_in:=own_in hg
 have og_0:=hg
 clear hg
 have oo_in:=own_in ho
 have oo_0:=ho
 clear ho
 go_upto_region 1 with fail
 refine wp_forget2 (w0:=w) (B:=w.heap.size) (b0:=w.heap.size) (t0:=40) (c0:=#[.slice G gs.length cg,.slice O 0 co]) (b1:=w.heap.size + 1) (t1:=40) (c1:=#[.slice none 0 0,.slice none 0 0]) ?_ ?_ ?_ ?_
 (focus exact blkcBy)
 (focus exact blkcBy)
 (focus (exact belBy))
 intro w1 x_1 r_1 hX1
 have sX1:=hX1.size
 have x_lt:=x_1.lt
 have r_lt:=r_1.lt
 have b_1:=b_0.trans (hX1.mono (by omega))
 have og_1:=own_below og_0 hX1
 have oo_1:=own_below oo_0 hX1
 clear og_0 oo_0 b_0 hX1
 have cell_x:=x_1.cell
 have froz_x:=x_1.frozen
 have lt_x:=x_1.lt
 have cell_r:=r_1.cell
 have froz_r:=r_1.frozen
 have lt_r:=r_1.lt
 go_wp2_with fail
 refine calls_forget0 (W:=w1) ?_ ?_
 (focus (exact belBy))
 intro X2 hX2
 have sX2:=hX2.size
 refine (iCopyC _ _ _ _ _ _ (flatG gs) [] _ (own_below og_1 hX2) (own_below oo_1 hX2) (by omega) (by omega)).mono ?_
 rintro e w2 ⟨G',cg',O',co',rfl,pg_2,po_2,hb2⟩
 have s2:=hb2.size
 have hT2:=hX2.trans (hb2.mono sX2)
 have b_2:=b_1.trans (hT2.mono (by omega))
 have og_2:=own_below og_1 hT2
 have oo_2:=own_below oo_1 hT2
 have x_2:=Blk.past hT2 x_1
 have r_2:=Blk.past hT2 r_1
 have pg_in:=own_in pg_2
 have po_in:=own_in po_2
 clear og_1 oo_1 x_1 r_1 b_1 cell_x froz_x lt_x cell_r froz_r lt_r hX2 hT2 hb2
 have cell_x:=x_2.cell
 have froz_x:=x_2.frozen
 have lt_x:=x_2.lt
 have cell_r:=r_2.cell
 have froz_r:=r_2.frozen
 have lt_r:=r_2.lt
 go_upto_region 2 with fail
 refine wp_forget1 (w0:=w2) (B:=w2.heap.size) (b0:=w2.heap.size) (t0:=159) (c0:=#[.slice G' gs.length cg',.slice O' 0 co']) ?_ ?_ ?_
 (focus exact blkcBy)
 (focus (exact belBy))
 intro w3 u_3 hX3
 have sX3:=hX3.size
 have u_lt:=u_3.lt
 have b_3:=b_2.trans (hX3.mono (by omega))
 have og_3:=own_below og_2 hX3
 have oo_3:=own_below oo_2 hX3
 have pg_3:=own_below pg_2 hX3
 have po_3:=own_below po_2 hX3
 have x_3:=Blk.past hX3 x_2
 have r_3:=Blk.past hX3 r_2
 clear og_2 oo_2 pg_2 po_2 x_2 r_2 b_2 cell_x froz_x lt_x cell_r froz_r lt_r hX3
 have cell_x:=x_3.cell
 have froz_x:=x_3.frozen
 have lt_x:=x_3.lt
 have cell_r:=r_3.cell
 have froz_r:=r_3.frozen
 have lt_r:=r_3.lt
 have cell_u:=u_3.cell
 have froz_u:=u_3.frozen
 have lt_u:=u_3.lt
 go_wp2_with fail
 refine calls_forget1 (W:=w3) (b0:=w3.heap.size) (t0:=30) (c0:=#[.slice (some ⟨bx,ox,none⟩) 4 cx,.slice (some ⟨bY,oy,none⟩) 4 cy]) ?_ ?_ ?_
 (focus exact blkcBy)
 (focus (exact belBy))
 intro X4 q_n hX4
 have sX4:=hX4.size
 have q_lt:=q_n.lt
 refine (iIsWordOf G O _ cg co 2 2 gs [.slice (some ⟨bx,ox,none⟩) 4 cx,.slice (some ⟨bY,oy,none⟩) 4 cy] _ (Cells.of_own (own_below og_3 hX4)) hok (by omega) rfl (cells_vals q_n) (words2 (HX.out.1.below (b_3.trans (hX4.mono (by omega)))) (HX.out.2.below (b_3.trans (hX4.mono (by omega)))) hwx hwy) (by omega)).mono ?_
 rintro e w4 ⟨rfl,hb4⟩
 have s4:=hb4.size
 have hT4:=hX4.trans (hb4.mono sX4)
 have b_4:=b_3.trans (hT4.mono (by omega))
 have og_4:=own_below og_3 hT4
 have oo_4:=own_below oo_3 hT4
 have pg_4:=own_below pg_3 hT4
 have po_4:=own_below po_3 hT4
 have x_4:=Blk.past hT4 x_3
 have r_4:=Blk.past hT4 r_3
 have u_4:=Blk.past hT4 u_3
 have q_4:=Blk.past hb4 q_n
 clear og_3 oo_3 pg_3 po_3 x_3 r_3 u_3 b_3 cell_x froz_x lt_x cell_r froz_r lt_r cell_u froz_u lt_u q_n hX4 hT4 hb4
 have cell_x:=x_4.cell
 have froz_x:=x_4.frozen
 have lt_x:=x_4.lt
 have cell_r:=r_4.cell
 have froz_r:=r_4.frozen
 have lt_r:=r_4.lt
 have cell_u:=u_4.cell
 have froz_u:=u_4.frozen
 have lt_u:=u_4.lt
 have cell_q:=q_4.cell
 have froz_q:=q_4.frozen
 have lt_q:=q_4.lt
 clear cell_q froz_q lt_q
 clear q_4
 go_wp2_with fail
 refine calls_forget0 (W:=w4) ?_ ?_
 (focus (exact belBy))
 intro X5 hX5
 have sX5:=hX5.size
 refine (iWithinOk z _ _ hz).mono ?_
 rintro e w' ⟨rfl,rfl⟩
 have b_5:=b_4.trans (hX5.mono (by omega))
 have og_5:=own_below og_4 hX5
 have oo_5:=own_below oo_4 hX5
 have pg_5:=own_below pg_4 hX5
 have po_5:=own_below po_4 hX5
 have x_5:=Blk.past hX5 x_4
 have r_5:=Blk.past hX5 r_4
 have u_5:=Blk.past hX5 u_4
 clear og_4 oo_4 pg_4 po_4 x_4 r_4 u_4 b_4 cell_x froz_x lt_x cell_r froz_r lt_r cell_u froz_u lt_u hX5
 have cell_x:=x_5.cell
 have froz_x:=x_5.frozen
 have lt_x:=x_5.lt
 have cell_r:=r_5.cell
 have froz_r:=r_5.frozen
 have lt_r:=r_5.lt
 have cell_u:=u_5.cell
 have froz_u:=u_5.frozen
 have lt_u:=u_5.lt
 clear cell_x froz_x lt_x
 clear x_5
 clear og_5
 clear oo_5
 have HB:=hid (show Bld TI X5 w.heap.size w2.heap.size gs (.slice O' 0 co') from ⟨G',cg',u_5,by omega,own_weak pg_5 (by omega)⟩)
 have HR:=hid (And.intro r_5 (And.intro (own_weak (base':=w.heap.size) po_5 (by omega)) b_5))
 have zw:w.heap.size≤X5.heap.size:=b_5.size
 have zr:w.heap.size + 1 < X5.heap.size:=r_5.lt
 have HX4:=hid (And.intro (HX.out.1.below b_5) (HX.out.2.below b_5))
 clear pg_5 po_5 r_5 u_5 b_5 cell_r froz_r lt_r cell_u froz_u lt_u pg_in po_in
 go_upto_region 5 with fail
 obtain ⟨w9,hw9⟩:∃ w9,w9=X5.alloc (.cells #[] 3):=⟨_,rfl⟩
 have hb:Below X5.heap.size X5 w9:=by rw [hw9]; exact (Below.refl _ _).alloc (Nat.le_refl _) _
 have ho9:RowI w9 X5.heap.size 0 0 []:=by rw [hw9]; exact Row.new #[] (Nat.zero_le _) rfl rfl
 rw [←hw9]
 have H9:=hid (And.intro ((HB.out).below hb) (And.intro ((HX4.out.1).below hb) (And.intro ((HX4.out.2).below hb) (And.intro (ho9) ((Stay.of_below (T:=TI) (lo:=w.heap.size) hb))))))
 have hbk:=(HB.out).len
 have hl_bx:=(HX4.out.1).lt
 have hl_bY:=(HX4.out.2).lt
 clear ho9 hb hw9
 go_wp2_with fail
 go_loopw [11,12,13,40] (fun o _ _ i wr=>∃ (m g k:Nat),m≤4∧i=.int .i64 (m:Int)∧o=.slice (some ⟨g,0,none⟩) m k∧X5.heap.size≤g∧Bld TI wr w.heap.size w2.heap.size (muxTo gs z xs ys m) (.slice O' 0 co')∧Wd wr (some ⟨bx,ox,none⟩) xs∧Wd wr (some ⟨bY,oy,none⟩) ys∧RowI wr g m k (muxW gs.length m)∧Stay TI w.heap.size X5 wr) (fun _ _ _ i _=>4 - (intOf i).toNat)
 case atStart=>exact ⟨0,X5.heap.size,0,Nat.zero_le _,rfl,rfl,Nat.le_refl _,H9.out.1,H9.out.2.1,H9.out.2.2.1,H9.out.2.2.2.1,H9.out.2.2.2.2⟩
 case round =>
  clear H9
  obtain ⟨m,g,k,hm,rfl,rfl,hg,hB,hW0,hW1,hR,hS⟩:=hrel
  have zr:=hS.size
  by_cases hlt:m < 4
  ·have hlt':(m:Int) < 4:=by omega
   obtain ⟨x0,e0⟩:∃ x,xs[m]? = some x:=⟨_,List.getElem?_eq_getElem (by omega)⟩
   have d0:=hW0.cell e0
   have g0:=getD_at e0
   have lx0:bx < wr.heap.size:=by omega
   obtain ⟨x1,e1⟩:∃ x,ys[m]? = some x:=⟨_,List.getElem?_eq_getElem (by omega)⟩
   have d1:=hW1.cell e1
   have g1:=getD_at e1
   have lx1:bY < wr.heap.size:=by omega
   have hlen:(muxTo gs z xs ys m).length=gs.length + 3 * m:=muxTo_length _ _ _ _ _
   obtain ⟨N1,hN1⟩:∃ N,gs.length + 3 * m=N:=⟨_,rfl⟩
   rw [hN1] at hlen
   have HT:=hid (show muxTo gs z xs ys (m + 1)=muxTo gs z xs ys m ++ [⟨3,x0,x1⟩,⟨4,z,((gs.length + 3 * m:Nat):Int)⟩,⟨3,((gs.length + 3 * m + 1:Nat):Int),x1⟩] from by rw [muxTo,g0,g1])
   have hB0:=hB
   have H:=hid (And.intro (hB) (And.intro (hW0) (And.intro (hW1) (And.intro (hR) (hS)))))
   clear hB hW0 hW1 hR hS g0 g1
   go_upto_region 8 with fail
   go_still_tail 9,(by kernel_rfl)
   go_wp2_with fail
   refine Calls.mono (iGate (n:=N1) _ _ _ _ (Bld.heap hB0 rfl) hlen (by omega)) ?_
   rintro e w7 ⟨rfl,h,t⟩
   have z3:=t.size
   have hS3:=H.out.2.2.2.2.onto t rfl rfl rfl rfl
   have zs3:=hS3.size
   have HR3:=hid (Row.onto H.out.2.2.2.1 t rfl (by decide) (by decide))
   have H3:=hid (And.intro (h) (And.intro ((Wd.onto H.out.2.1 t rfl (by decide))) (And.intro ((Wd.onto H.out.2.2.1 t rfl (by decide))) (hS3))))
   clear h t hS3 hB0 H d0 d1
   have hB7:=H3.out.1
   have hX7:=H3.out.2.2.1
   have hS7:=H3.out.2.2.2
   have hR7:=HR3.out
   have d1:=hX7.cell e1
   have lx1:=hX7.lt
   have hlen1:(muxTo gs z xs ys m ++ [(⟨3,x0,x1⟩:Gt)]).length=N1 + 1:=by rw [List.length_append,hlen]; rfl
   have hlen2:(muxTo gs z xs ys m ++ [(⟨3,x0,x1⟩:Gt)] ++ [(⟨4,z,(N1:Int)⟩:Gt)]).length=N1 + 2:=by rw [List.length_append,hlen1]; rfl
   have hnb1:N1 + 1≤100000:=by omega
   have hnb2:N1 + 2≤100000:=by omega
   have ne1:bY≠g:=by omega
   have hm6:m + 1≤1000000:=by omega
   have hti:3≠TI:=by decide
   have htg:3≠TG:=by decide
   have H7:=hid H3.out
   clear H3 HR3
   go_upto_region 9 with fail
   go_region_held3 (fun w'=>w'.cell? ⟨bY,oy + m,none⟩=some (.int .i64 x1)) (first | exact d1 | exact d1p | exact d1p' _ | exact d1q | exact d1q' _ | exact d1z) (first | (go_at_call 158; refine Calls.mono (iGate (n:=N1 + 1) _ _ _ _ (Bld.heap hB7 rfl) hlen1 hnb1) ?_; rintro e w81 ⟨rfl,h,t⟩; have HR4:=hid (Row.onto hR7 t rfl hti htg); have d1p:=(Wd.onto hX7 t rfl hti).cell e1; have d1p':=fun O=>((Wd.onto hX7 t rfl hti).below ((Below.refl w81.heap.size w81).alloc (Nat.le_refl _) O)).cell e1) | (go_at_call 158; refine Calls.mono (iGate (n:=N1 + 2) _ _ _ _ h hlen2 hnb2) ?_; rintro e w82 ⟨rfl,h7,t7⟩; have HR5:=hid (t7.row HR4.out hti htg); have d1q:=((Wd.onto hX7 t rfl hti).stay t7 hti).cell e1; have d1q':=fun O=>(((Wd.onto hX7 t rfl hti).stay t7 hti).below ((Below.refl w82.heap.size w82).alloc (Nat.le_refl _) O)).cell e1) | (refine app_int_step rfl _ _ rfl rfl (HR5.out.alloc _) [((N1 + 2:Nat):Int)] rfl rfl (top_cells _ [_] _) Nat.one_pos hm6 ?_; intro g' k' w8 h1 h2 h3; have h2:=grown_alloc h2; have d1z:=(((Wd.onto hX7 t rfl hti).stay t7 hti).grown h2 ne1).cell e1))
   all_goals
    have z8:=t.size
    have z82:=t7.size
    have zs8:=((hS7.onto t rfl rfl rfl rfl).trans t7).size
    have H5:=hid (And.intro (h7) (And.intro (((Wd.onto H7.out.2.1 t rfl (by decide)).stay t7 (by decide))) (And.intro (((Wd.onto H7.out.2.2.1 t rfl (by decide)).stay t7 (by decide))) (((hS7.onto t rfl rfl rfl rfl).trans t7)))))
    clear h t h7 t7 hB7 hX7 hS7 hR7 d1 d1p d1p' d1q d1q' d1z HR4 H7 hlen1 hlen2
    have hg':X5.heap.size≤g':=by (try simp at h3); omega
    have H8:=hid (And.intro ((bld_cast (gs':=muxTo gs z xs ys (m + 1)) (H5.out.1.grown h2 HR5.out (by decide)) (by rw [HT.out,←hN1]; simp))) (And.intro ((H5.out.2.1.grown h2 (by omega))) (And.intro ((H5.out.2.2.1.grown h2 (by omega))) (And.intro ((row_eq (ys:=muxW gs.length (m + 1)) h1 (by first | (rw [muxW,←hN1]; done) | (rw [muxW,←hN1]; simp)))) ((H5.out.2.2.2.grown h2 (by omega)))))))
    clear h1 h2 h3 H5 HR5
    go_wp2
    go_roundw
    case rel=>exact ⟨m + 1,g',k',by omega,by go_num,rfl,hg',H8.out.1,H8.out.2.1,H8.out.2.2.1,H8.out.2.2.2.1,H8.out.2.2.2.2⟩
    case measure=>simp [intOf]; omega
  ·obtain rfl:m=4:=by omega
   have hg0:=hg
   have hg:w.heap.size≤g:=by omega
   have HZ:=hid (And.intro hB (And.intro hR hS))
   have zz:=hS.size
   clear hB hR hS hW0 hW1
   obtain ⟨Az,cz,hu,hlo,hgz⟩:=HZ.out.1
   have cell_u:=hu.cell
   have froz_u:=hu.frozen
   have lt_u:=hu.lt
   have hr:=HZ.out.2.2.blk HR.out.1 (by decide) (by decide)
   have cell_r:=hr.cell
   have froz_r:=hr.frozen
   have lt_r:=hr.lt
   have hlz:(muxTo gs z xs ys 4).length=gs.length + 12:=by rw [muxTo_length]
   have HF:=hid (And.intro hlz (And.intro hgz (And.intro (HZ.out.2.2.own HR.out.2.1 (by decide) (by decide)) (And.intro HZ.out.2.1 (And.intro (HR.out.2.2.trans (HZ.out.2.2.below zw)) hr)))))
   have hne:w2.heap.size≠w.heap.size + 1:=by omega
   rw [hlz] at cell_u
   clear hu hgz hr hlz
   go_wp2
   ((try simp only [Exit.inBlock,Exit.then]); apply bodyPost_ret0; focus ((try simp only [results,Tryz.results166]); (try go_simp); (try rfl)))
   exact gives_w HF.out.1 HF.out.2.1 HF.out.2.2.1 HF.out.2.2.2.1 HF.out.2.2.2.2.1 hg HF.out.2.2.2.2.2 (by omega) (by exact tchBy)
open Go.RowKit
theorem wd_take {w:World} {b off:Nat} {xs:List Int} (h:Wd w (some ⟨b,off,none⟩) xs) (q:Nat):∀ j u,(ints (xs.take q))[j]? = some u→w.cell? ⟨b,off + j,none⟩=some u:=fun j u hu=>by
 unfold ints at hu
 rw [List.getElem?_map] at hu
 cases hx:(xs.take q)[j]? with
 | none=>rw [hx] at hu; cases hu
 | some x =>
  rw [hx] at hu
  injection hu with hu
  subst hu
  refine h.cell ?_
  rw [List.getElem?_take] at hx
  split at hx
  ·exact hx
  ·cases hx
theorem sumWs_len (n:Nat):∀ m,(sumWs n m).length=m
 | 0=>rfl
 | m + 1=>by simp [sumWs,sumWs_len n m]
theorem sumW_len (n m:Nat):(sumW n m).length=m + 1:=by simp [sumW,sumWs_len]
theorem mulTo_len2 (gs:List Gt) (xs ys:List Int):∀ i,i≤3→(mulTo gs xs ys i).2.length=4
 | 0,_=>by simp [mulTo,upW_length]
 | i + 1,h=>by
  have:=mulTo_len2 gs xs ys i (by omega)
  simp only [mulTo,List.length_append,List.length_take,sumW_len,this]
  omega
theorem mulTo_len1 (gs:List Gt) (xs ys:List Int):∀ i,i≤3→(mulTo gs xs ys i).1.length≤gs.length + 4 + 16 * i
 | 0,_=>by simp [mulTo,andsTo_length]
 | i + 1,h=>by
  have:=mulTo_len1 gs xs ys i (by omega)
  simp [mulTo,sumG_length,andsTo_length]
  omega
set_option linter.unusedVariables false in
set_option maxRecDepth 100000 in
set_option maxHeartbeats 3200000 in
theorem sMul {lo bp bx ox cx bY oy cy:Nat} {gs:List Gt} {O:Value} {xs ys:List Int} (w:World) (h:Bld TS w lo bp gs O) (hs:gs.length≤5000) (hx:Wd w (some ⟨bx,ox,none⟩) xs) (hy:Wd w (some ⟨bY,oy,none⟩) ys) (hx4:xs.length=4) (hy4:ys.length=4) :
  Calls Tryz.prog 117 #[.pointer (some ⟨bp,0,none⟩),.slice (some ⟨bx,ox,none⟩) 4 cx,.slice (some ⟨bY,oy,none⟩) 4 cy] w fun e w'=>∃ g k,e=.returned (.slice (some ⟨g,0,none⟩) 4 k)∧w.heap.size≤g∧RowI w' g 4 k (mulTo gs xs ys 3).2∧Bld TS w' lo bp (mulTo gs xs ys 3).1 O∧Stay TS lo w w':=by
 have H0:=hid (And.intro h (And.intro hx hy))
 clear h hx hy
 go_enter Tryz.func117,Tryz.ntmps117
 go_upto_region 2 with fail
 obtain ⟨w9,hw9⟩:∃ w9,w9=w.alloc (.cells #[] 3):=⟨_,rfl⟩
 have hb:Below w.heap.size w w9:=by rw [hw9]; exact (Below.refl _ _).alloc (Nat.le_refl _) _
 have ho9:RowI w9 w.heap.size 0 0 []:=by rw [hw9]; exact Row.new #[] (Nat.zero_le _) rfl rfl
 rw [←hw9]
 have H9:=hid (And.intro ((H0.out.1).below hb) (And.intro ((H0.out.2.1).below hb) (And.intro ((H0.out.2.2).below hb) (And.intro (ho9) ((Stay.of_below (T:=TS) (lo:=lo) hb))))))
 have hbk:=(H0.out.1).len
 have hl_bx:=(H0.out.2.1).lt
 have hl_bY:=(H0.out.2.2).lt
 clear ho9 hb hw9
 go_wp2_with fail
 go_loopw [7,8] (fun o i wr=>∃ (m g k:Nat),m≤4∧i=.int .i64 (m:Int)∧o=.slice (some ⟨g,0,none⟩) m k∧w.heap.size≤g∧Bld TS wr lo bp (andsTo gs (ys.getD 0 0) xs m) O∧Wd wr (some ⟨bx,ox,none⟩) xs∧Wd wr (some ⟨bY,oy,none⟩) ys∧RowI wr g m k (upW gs.length m)∧Stay TS lo w wr) (fun _ i _=>4 - (intOf i).toNat)
 case atStart=>exact ⟨0,w.heap.size,0,Nat.zero_le _,rfl,rfl,Nat.le_refl _,H9.out.1,H9.out.2.1,H9.out.2.2.1,H9.out.2.2.2.1,H9.out.2.2.2.2⟩
 case round =>
  clear H9
  obtain ⟨m,g,k,hm,rfl,rfl,hg,hB,hW0,hW1,hR,hS⟩:=hrel
  have zr:=hS.size
  by_cases hlt:m < 4
  ·have hlt':(m:Int) < 4:=by omega
   obtain ⟨x0,e0⟩:∃ x,xs[m]? = some x:=⟨_,List.getElem?_eq_getElem (by omega)⟩
   have d0:=hW0.cell e0
   have g0:=getD_at e0
   have lx0:bx < wr.heap.size:=by omega
   obtain ⟨x1,e1⟩:∃ x,ys[0]? = some x:=⟨_,List.getElem?_eq_getElem (by omega)⟩
   have d1:wr.cell? ⟨bY,oy,none⟩=some (.int .i64 x1):=hW1.cell e1
   have g1:=getD_at e1
   have lx1:bY < wr.heap.size:=by omega
   have hlen:(andsTo gs (ys.getD 0 0) xs m).length=gs.length + m:=andsTo_length _ _ _ _
   obtain ⟨N1,hN1⟩:∃ N,gs.length + m=N:=⟨_,rfl⟩
   rw [hN1] at hlen
   have HT:=hid (show andsTo gs (ys.getD 0 0) xs (m + 1)=andsTo gs (ys.getD 0 0) xs m ++ [⟨4,x1,x0⟩] from by rw [andsTo,g0,g1])
   have hB0:=hB
   have H:=hid (And.intro (hB) (And.intro (hW0) (And.intro (hW1) (And.intro (hR) (hS)))))
   have hnb:N1≤100000:=by omega
   have hti:3≠TS:=by decide
   have hX0:=hW0
   have hX1:=hW1
   have hR0:=hid hR
   clear hB hW0 hW1 hR hS g0 g1
   go_upto_region 5 with fail
   have ne0:bx≠g:=by omega
   have ne1:bY≠g:=by omega
   have hm6:m + 1≤1000000:=by omega
   have htg:3≠TG:=by decide
   have hR0:=hR0.out
   go_region_held3 (fun w'=>w'.cell? ⟨bx,ox + m,none⟩=some (.int .i64 x0)∧w'.cell? ⟨bY,oy,none⟩=some (.int .i64 x1)) (first | exact ⟨d0,d1⟩ | exact ⟨d0',d1'⟩ | exact ⟨d0'' _,d1'' _⟩ | exact ⟨d0z,d1z⟩) (first | (go_at_call 114; refine Calls.mono (sGate (n:=N1) _ _ _ _ (Bld.heap hB0 rfl) hlen hnb) ?_; rintro e w7 ⟨rfl,h,t⟩; have HR3:=hid (Row.onto hR0 t rfl hti htg); have d0':=(Wd.onto hX0 t rfl hti).cell e0; have d0'':=fun O=>((Wd.onto hX0 t rfl hti).below ((Below.refl w7.heap.size w7).alloc (Nat.le_refl _) O)).cell e0; have d1':=(Wd.onto hX1 t rfl hti).cell e1; have d1'':=fun O=>((Wd.onto hX1 t rfl hti).below ((Below.refl w7.heap.size w7).alloc (Nat.le_refl _) O)).cell e1) | (refine app_int_step rfl _ _ rfl rfl (HR3.out.alloc _) [((N1 + 0:Nat):Int)] rfl rfl (top_cells _ [_] _) Nat.one_pos hm6 ?_; intro g' k' w8 h1 h2 h3; have h2:=grown_alloc h2; have d0z:=((Wd.onto hX0 t rfl hti).grown h2 ne0).cell e0; have d1z:=((Wd.onto hX1 t rfl hti).grown h2 ne1).cell e1))
   all_goals
    have z3:=t.size
    have hS3:=H.out.2.2.2.2.onto t rfl rfl rfl rfl
    have zs3:=hS3.size
    have H3:=hid (And.intro (h) (And.intro ((Wd.onto H.out.2.1 t rfl (by decide))) (And.intro ((Wd.onto H.out.2.2.1 t rfl (by decide))) (hS3))))
    clear h t hS3 hB0 H d0 d1 hR0 d0' d0'' d0z e0 hX0 d1' d1'' d1z e1 hX1
    have hg':w.heap.size≤g':=by (try simp at h3); omega
    have H8:=hid (And.intro ((bld_cast (gs':=andsTo gs (ys.getD 0 0) xs (m + 1)) (H3.out.1.grown h2 HR3.out (by decide)) (by rw [HT.out]))) (And.intro ((H3.out.2.1.grown h2 (by omega))) (And.intro ((H3.out.2.2.1.grown h2 (by omega))) (And.intro ((row_eq (ys:=upW gs.length (m + 1)) h1 (by first | (rw [upW,←hN1]; done) | (rw [upW,←hN1]; simp)))) ((H3.out.2.2.2.grown h2 (by omega)))))))
    clear h1 h2 h3 H3 HR3
    go_wp2
    go_roundw
    case rel=>exact ⟨m + 1,g',k',by omega,by go_num,rfl,hg',H8.out.1,H8.out.2.1,H8.out.2.2.1,H8.out.2.2.2.1,H8.out.2.2.2.2⟩
    case measure=>simp [intOf]; omega
  ·obtain rfl:m=4:=by omega
   rw [show ((4:Nat):Int)=4 from rfl]
   have H5:=hid (And.intro hB (And.intro hW0 (And.intro hW1 (And.intro hR hS))))
   have zs:=hS.size
   clear hB hW0 hW1 hR hS
   go_wp2_with fail
   go_loopw [7,9,10,11,12] (fun o i _ _ _ wr=>∃ (m q g k:Nat),m≤3∧q=m + 1∧i=.int .i64 (q:Int)∧o=.slice (some ⟨g,0,none⟩) 4 k∧w.heap.size≤g∧Bld TS wr lo bp (mulTo gs xs ys m).1 O∧Wd wr (some ⟨bx,ox,none⟩) xs∧Wd wr (some ⟨bY,oy,none⟩) ys∧RowI wr g 4 k (mulTo gs xs ys m).2∧Stay TS lo w wr) (fun _ i _ _ _ _=>4 - (intOf i).toNat)
   case atStart=>exact ⟨0,1,g,k,Nat.zero_le _,rfl,rfl,rfl,hg,H5.out.1,H5.out.2.1,H5.out.2.2.1,H5.out.2.2.2.1,H5.out.2.2.2.2⟩
   case round =>
    clear H5
    obtain ⟨m0,q,g0,k0,hm0,hq,rfl,rfl,hg0,hB,hW0,hW1,hR,hS⟩:=hrel
    have zr0:=hS.size
    have hlen0:=mulTo_len1 gs xs ys m0 hm0
    have hlenw:=mulTo_len2 gs xs ys m0 hm0
    obtain ⟨gs0,hgs0⟩:∃ l,(mulTo gs xs ys m0).1=l:=⟨_,rfl⟩
    obtain ⟨ws0,hws0⟩:∃ l,(mulTo gs xs ys m0).2=l:=⟨_,rfl⟩
    rw [hgs0] at hB hlen0
    rw [hws0] at hR hlenw
    rename World=>wo
    have hk0:=hR.cap
    have HP:=hid (And.intro hB (And.intro hW0 (And.intro hW1 (And.intro (Wd.of_row hR) (And.intro hR hS)))))
    have HM:=hid (And.intro hgs0 (And.intro hws0 hq))
    have hq1:1≤q:=by omega
    clear hB hW0 hW1 hR hS hgs0 hws0
    by_cases hlt0:m0 < 3
    ·have hq4:(q:Int) < 4:=by omega
     have hq4n:q < 4:=by omega
     have hl0:ws0.length=4:=hlenw
     obtain ⟨M,hM⟩:∃ M,4 - q=M + 1:=⟨3 - q,by omega⟩
     have HL:=hid hM
     have hM3:M≤2:=by omega
     clear hM hq hlenw
     go_upto_region 10 with fail
     obtain ⟨w9,hw9⟩:∃ w9,w9=wo.alloc (.cells #[] 3):=⟨_,rfl⟩
     have hb:Below wo.heap.size wo w9:=by rw [hw9]; exact (Below.refl _ _).alloc (Nat.le_refl _) _
     have ho9:RowI w9 wo.heap.size 0 0 []:=by rw [hw9]; exact Row.new #[] (Nat.zero_le _) rfl rfl
     rw [←hw9]
     have H9:=hid (And.intro ((HP.out.1).below hb) (And.intro ((HP.out.2.1).below hb) (And.intro ((HP.out.2.2.1).below hb) (And.intro ((HP.out.2.2.2.1).below hb) (And.intro (ho9) ((Stay.of_below (T:=TS) (lo:=lo) hb)))))))
     have hbk:=(HP.out.1).len
     have hl_bx:=(HP.out.2.1).lt
     have hl_bY:=(HP.out.2.2.1).lt
     have hl_g0:=(HP.out.2.2.2.1).lt
     clear ho9 hb hw9
     go_wp2_with fail
     go_loopw [10,11] (fun o i wr=>∃ (m g k:Nat),m≤M + 1∧i=.int .i64 (m:Int)∧o=.slice (some ⟨g,0,none⟩) m k∧wo.heap.size≤g∧Bld TS wr lo bp (andsTo gs0 (ys.getD q 0) xs m) O∧Wd wr (some ⟨bx,ox,none⟩) xs∧Wd wr (some ⟨bY,oy,none⟩) ys∧Wd wr (some ⟨g0,0,none⟩) ws0∧RowI wr g m k (upW gs0.length m)∧Stay TS lo wo wr) (fun _ i _=>M + 1 - (intOf i).toNat)
     case atStart=>exact ⟨0,wo.heap.size,0,Nat.zero_le _,rfl,rfl,Nat.le_refl _,H9.out.1,H9.out.2.1,H9.out.2.2.1,H9.out.2.2.2.1,H9.out.2.2.2.2.1,H9.out.2.2.2.2.2⟩
     case round =>
      clear H9
      obtain ⟨m,g,k,hm,rfl,rfl,hg,hB,hW0,hW1,hW2,hR,hS⟩:=hrel
      have zr:=hS.size
      by_cases hlt:m < M + 1
      ·have hlt':(m:Int) < 4 - (q:Int):=by (have:=HL.out; omega)
       obtain ⟨x0,e0⟩:∃ x,xs[m]? = some x:=⟨_,List.getElem?_eq_getElem (by (have:=HL.out; omega))⟩
       have d0:=hW0.cell e0
       have g0:=getD_at e0
       have lx0:bx < wr.heap.size:=by omega
       obtain ⟨x1,e1⟩:∃ x,ys[q]? = some x:=⟨_,List.getElem?_eq_getElem (by (have:=HL.out; omega))⟩
       have d1:=hW1.cell e1
       have g1:=getD_at e1
       have lx1:bY < wr.heap.size:=by omega
       have hm4:(m:Int) < 4:=by omega
       have hlen:(andsTo gs0 (ys.getD q 0) xs m).length=gs0.length + m:=andsTo_length _ _ _ _
       obtain ⟨N1,hN1⟩:∃ N,gs0.length + m=N:=⟨_,rfl⟩
       rw [hN1] at hlen
       have HT:=hid (show andsTo gs0 (ys.getD q 0) xs (m + 1)=andsTo gs0 (ys.getD q 0) xs m ++ [⟨4,x1,x0⟩] from by rw [andsTo,g0,g1])
       have hB0:=hB
       have H:=hid (And.intro (hB) (And.intro (hW0) (And.intro (hW1) (And.intro (hW2) (And.intro (hR) (hS))))))
       have hnb:N1≤100000:=by omega
       have hti:3≠TS:=by decide
       have hX0:=hW0
       have hX1:=hW1
       have hR0:=hid hR
       clear hB hW0 hW1 hW2 hR hS g0 g1
       go_upto_region 13 with fail
       have ne0:bx≠g:=by omega
       have ne1:bY≠g:=by omega
       have hm6:m + 1≤1000000:=by omega
       have htg:3≠TG:=by decide
       have hR0:=hR0.out
       go_region_held3 (fun w'=>w'.cell? ⟨bx,ox + m,none⟩=some (.int .i64 x0)∧w'.cell? ⟨bY,oy + q,none⟩=some (.int .i64 x1)) (first | exact ⟨d0,d1⟩ | exact ⟨d0',d1'⟩ | exact ⟨d0'' _,d1'' _⟩ | exact ⟨d0z,d1z⟩) (first | (go_at_call 114; refine Calls.mono (sGate (n:=N1) _ _ _ _ (Bld.heap hB0 rfl) hlen hnb) ?_; rintro e w7 ⟨rfl,h,t⟩; have HR3:=hid (Row.onto hR0 t rfl hti htg); have d0':=(Wd.onto hX0 t rfl hti).cell e0; have d0'':=fun O=>((Wd.onto hX0 t rfl hti).below ((Below.refl w7.heap.size w7).alloc (Nat.le_refl _) O)).cell e0; have d1':=(Wd.onto hX1 t rfl hti).cell e1; have d1'':=fun O=>((Wd.onto hX1 t rfl hti).below ((Below.refl w7.heap.size w7).alloc (Nat.le_refl _) O)).cell e1) | (refine app_int_step rfl _ _ rfl rfl (HR3.out.alloc _) [((N1 + 0:Nat):Int)] rfl rfl (top_cells _ [_] _) Nat.one_pos hm6 ?_; intro g' k' w8 h1 h2 h3; have h2:=grown_alloc h2; have d0z:=((Wd.onto hX0 t rfl hti).grown h2 ne0).cell e0; have d1z:=((Wd.onto hX1 t rfl hti).grown h2 ne1).cell e1))
       all_goals
        have z3:=t.size
        have hS3:=H.out.2.2.2.2.2.onto t rfl rfl rfl rfl
        have zs3:=hS3.size
        have H3:=hid (And.intro (h) (And.intro ((Wd.onto H.out.2.1 t rfl (by decide))) (And.intro ((Wd.onto H.out.2.2.1 t rfl (by decide))) (And.intro ((Wd.onto H.out.2.2.2.1 t rfl (by decide))) (hS3)))))
        clear h t hS3 hB0 H d0 d1 hR0 d0' d0'' d0z e0 hX0 d1' d1'' d1z e1 hX1
        have hg':wo.heap.size≤g':=by (try simp at h3); omega
        have H8:=hid (And.intro ((bld_cast (gs':=andsTo gs0 (ys.getD q 0) xs (m + 1)) (H3.out.1.grown h2 HR3.out (by decide)) (by rw [HT.out]))) (And.intro ((H3.out.2.1.grown h2 (by omega))) (And.intro ((H3.out.2.2.1.grown h2 (by omega))) (And.intro ((H3.out.2.2.2.1.grown h2 (by omega))) (And.intro ((row_eq (ys:=upW gs0.length (m + 1)) h1 (by first | (rw [upW,←hN1]; done) | (rw [upW,←hN1]; simp)))) ((H3.out.2.2.2.2.grown h2 (by omega))))))))
        clear h1 h2 h3 H3 HR3
        go_wp2
        go_roundw
        case rel=>exact ⟨m + 1,g',k',by omega,by go_num,rfl,hg',H8.out.1,H8.out.2.1,H8.out.2.2.1,H8.out.2.2.2.1,H8.out.2.2.2.2.1,H8.out.2.2.2.2.2⟩
        case measure=>simp [intOf]; omega
      ·obtain rfl:m=M + 1:=by omega
       obtain ⟨gs1,hgs1⟩:∃ l,andsTo gs0 (ys.getD q 0) xs (M + 1)=l:=⟨_,rfl⟩
       have hl1:gs1.length=gs0.length + (M + 1):=by rw [←hgs1]; exact andsTo_length _ _ _ _
       rw [hgs1] at hB
       have hk1:k0≠q:=by omega
       have hk2:(q:Int)≤(k0:Int):=by omega
       have hq44:(q:Int)≤4:=by omega
       have hq0:(0:Int)≤(q:Int):=by omega
       have hg0l:=hW2.lt
       have H6:=hid (And.intro hB (And.intro hW0 (And.intro hW1 (And.intro hW2 (And.intro hR hS)))))
       have HG:=hid hgs1
       clear hB hW0 hW1 hW2 hR hS hgs1
       have hstop:¬ ((M:Int) + 1 < 4 - (q:Int)):=by have:=HL.out; omega
       have hd0:=Wd.drop H6.out.2.2.2.1 q
       rw [Nat.zero_add] at hd0
       have hdl:(ws0.drop q).length=M + 1:=by rw [List.length_drop,hl0]; exact HL.out
       have HD:=hid (And.intro hd0 hdl)
       clear hd0 hdl
       go_wp2_with fail
       rw [HL.out]
       refine Calls.mono (sSum (n:=gs1.length) 0 M _ H6.out.1 rfl (by omega) HD.out.1 (Wd.of_row H6.out.2.2.2.2.1) HD.out.2 (upW_length _ _) (by omega)) ?_
       rintro e w5 ⟨g1,k1,rfl,hg1,hrow,hbl,hst⟩
       have z5:=hst.size
       have H7:=hid (And.intro hbl (And.intro (H6.out.2.1.stay hst (by decide)) (And.intro (H6.out.2.2.1.stay hst (by decide)) (And.intro (H6.out.2.2.2.1.stay hst (by decide)) (And.intro hrow (H6.out.2.2.2.2.2.trans hst))))))
       clear hrow hbl hst H6
       have htq:(ws0.take q).length=q:=by rw [List.length_take,hl0]; omega
       have hb1:0 + q≤1000000:=by omega
       have hc1:=wd_take (H7.out.2.2.2.1.below ((Below.refl w5.heap.size w5).alloc (Nat.le_refl _) (.cells #[] 3))) q
       go_wp2_with (at_builtin; refine app_int (L:=[]) rfl _ _ rfl rfl (Row.new #[] (Nat.zero_le _) rfl rfl) (ws0.take q) rfl htq hc1 hb1 ?_)
       intro g2 k2 w6 h1 h2 h3
       have hb6:Below w5.heap.size w5 w6:=below_apps ((Below.refl w5.heap.size w5).alloc (Nat.le_refl _) _) h2 (by simp) (Nat.le_refl _)
       have z6:=hb6.size
       have hg2:w5.heap.size≤g2:=by omega
       have H8:=hid (And.intro (H7.out.1.below hb6) (And.intro (H7.out.2.1.below hb6) (And.intro (H7.out.2.2.1.below hb6) (And.intro (H7.out.2.2.2.2.1.below hb6) (And.intro h1 (H7.out.2.2.2.2.2.trans (Stay.of_below (lo:=lo) hb6)))))))
       have lb:=H7.out.2.1.lt
       have ly:=H7.out.2.2.1.lt
       clear h1 h2 h3 hb6 H7 hc1
       have hb2:q + (M + 1)≤1000000:=by omega
       have hc2:=row_cells H8.out.2.2.2.1
       go_wp2_with (at_builtin; refine app_int rfl _ _ rfl rfl H8.out.2.2.2.2.1 (sumW gs1.length M) rfl (sumW_len _ _) hc2 hb2 ?_)
       intro g3 k3 w7 j1 j2 j3
       have hg3:w.heap.size≤g3:=by (try simp at j3); omega
       have hqM:q + (M + 1)=4:=by have:=HL.out; omega
       have HT:=hid (show mulTo gs xs ys (m0 + 1)=(sumG gs1 (ws0.drop q) (upW gs0.length (M + 1)) 0 M,ws0.take q ++ sumW gs1.length M) from by
        have hq:=HM.out.2.2
        subst hq
        have e1:3 - m0=M + 1:=by omega
        have e2:2 - m0=M:=by omega
        simp only [mulTo,e1,e2,HM.out.1,HM.out.2.1,HG.out])
       rw [hqM] at j1
       have H9:=hid (And.intro (bld_cast (gs':=(mulTo gs xs ys (m0 + 1)).1) (H8.out.1.grown j2 H8.out.2.2.2.2.1 (by decide)) (by rw [HT.out])) (And.intro (H8.out.2.1.grown j2 (by omega)) (And.intro (H8.out.2.2.1.grown j2 (by omega)) (And.intro (row_eq (ys:=(mulTo gs xs ys (m0 + 1)).2) j1 (by rw [HT.out,←hl1])) (H8.out.2.2.2.2.2.grown j2 (by omega))))))
       have HQ:=hid hqM
       clear j1 j2 j3 H8 hc2 hqM
       rw [HQ.out]
       go_wp2
       go_roundw
       case rel=>exact ⟨m0 + 1,q + 1,g3,k3,by omega,by have:=HM.out.2.2; omega,by go_num,rfl,hg3,H9.out.1,H9.out.2.1,H9.out.2.2.1,H9.out.2.2.2.1,HP.out.2.2.2.2.2.trans H9.out.2.2.2.2⟩
       case measure=>simp [intOf]; omega
    ·obtain rfl:m0=3:=by omega
     have HM2:=hid (And.intro HM.out.1 HM.out.2.1)
     clear HM
     go_wp2
     go_returns
     exact ⟨g0,k0,rfl,hg0,by rw [HM2.out.2]; exact HP.out.2.2.2.2.1,by rw [HM2.out.1]; exact HP.out.1,HP.out.2.2.2.2.2⟩
open Go.RowKit
def prow (q n m:Nat):List Int:=List.replicate q 0 ++ upW n m ++ List.replicate (4 - q - m) 0
theorem prow_length (q n m:Nat) (h:q + m≤4):(prow q n m).length=4:=by
 simp [prow,upW_length]
 omega
theorem prow_zero (q n:Nat) (h:q≤4):prow q n 0=[0,0,0,0]:=by
 obtain rfl | rfl | rfl | rfl | rfl:q=0∨q=1∨q=2∨q=3∨q=4:=by omega
 all_goals rfl
theorem prow_drop (q n m:Nat) (h:q + m=4):(prow q n m).drop q=upW n m:=by
 have e:4 - q - m=0:=by omega
 simp [prow,e]
theorem prow_set (q n m:Nat) (h:q + m < 4):(prow q n m).set (q + m) ((n + m:Nat):Int)=prow q n (m + 1):=by
 obtain ⟨z,hz⟩:∃ z,4 - q - m=z + 1:=⟨3 - q - m,by omega⟩
 have hz':4 - q - (m + 1)=z:=by omega
 rw [prow,prow,hz,hz',upW,List.replicate_succ]
 rw [List.set_append_right _ _ (by simp [upW_length])]
 simp [upW_length]
end Go.Proofs.YtihbaieiempjeaaGreat
