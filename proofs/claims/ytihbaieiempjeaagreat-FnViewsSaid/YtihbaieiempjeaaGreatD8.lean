/- Lemmas of the proof: Bits, Less. -/
import Derived.Test.YtihbaieiempjeaaGreatD0
import Derived.Test.YtihbaieiempjeaaGreatD7
namespace Go.Proofs.YtihbaieiempjeaaGreat
open Go.RowKit
set_option linter.unusedVariables false in
set_option maxRecDepth 100000 in
set_option maxHeartbeats 3200000 in
theorem iWordConst {gs:List Gt} {G O:Option Addr} {cg co:Nat} (n:Int) (w:World) (hg:w.ownsRow 0 TG 3 (.slice G gs.length cg) gs.length (ints (flatG gs))) (ho:w.ownsRow 0 3 1 (.slice O 0 co) 0 (ints [])) (hok:gatesB 0 gs=true) (hl:gs.length≤5000) (hn:0≤n∧n≤15) :
  Calls Tryz.prog 90 #[.agg #[.slice G gs.length cg,.slice O 0 co],.int .i64 n] w (GivesW w (constTo gs n 4) (upW gs.length 4)):=by
 go_enter Tryz.func90,Tryz.ntmps90
 have b_0:=(Below.refl w.heap.size w)
 have s_0:=b_0.size
 have og_in:=own_in hg
 have og_0:=hg
 clear hg
 have oo_in:=own_in ho
 have oo_0:=ho
 clear ho
 go_upto_region 1 with fail
 refine wp_forget2 (w0:=w) (B:=w.heap.size) (b0:=w.heap.size) (t0:=40) (c0:=#[.slice G gs.length cg,.slice O 0 co]) (b1:=w.heap.size + 1) (t1:=40) (c1:=#[.slice none 0 0,.slice none 0 0]) ?_ ?_ ?_ ?_
 (focus exact blkcBy)
 (focus exact blkcBy)
 (focus (exact belBy))
 intro w1 x_1 r_1 hX1
 have sX1:=hX1.size
 have x_lt:=x_1.lt
 have r_lt:=r_1.lt
 have b_1:=b_0.trans (hX1.mono (by omega))
 have og_1:=own_below og_0 hX1
 have oo_1:=own_below oo_0 hX1
 clear og_0 oo_0 b_0 hX1
 have cell_x:=x_1.cell
 have froz_x:=x_1.frozen
 have lt_x:=x_1.lt
 have cell_r:=r_1.cell
 have froz_r:=r_1.frozen
 have lt_r:=r_1.lt
 go_wp2_with fail
 refine calls_forget0 (W:=w1) ?_ ?_
 (focus (exact belBy))
 intro X2 hX2
 have sX2:=hX2.size
 refine (iCopyC _ _ _ _ _ _ (flatG gs) [] _ (own_below og_1 hX2) (own_below oo_1 hX2) (by omega) (by omega)).mono ?_
 rintro e w2 ⟨G',cg',O',co',rfl,pg_2,po_2,hb2⟩
 have s2:=hb2.size
 have hT2:=hX2.trans (hb2.mono sX2)
 have b_2:=b_1.trans (hT2.mono (by omega))
 have og_2:=own_below og_1 hT2
 have oo_2:=own_below oo_1 hT2
 have x_2:=Blk.past hT2 x_1
 have r_2:=Blk.past hT2 r_1
 have pg_in:=own_in pg_2
 have po_in:=own_in po_2
 clear og_1 oo_1 x_1 r_1 b_1 cell_x froz_x lt_x cell_r froz_r lt_r hX2 hT2 hb2
 have cell_x:=x_2.cell
 have froz_x:=x_2.frozen
 have lt_x:=x_2.lt
 have cell_r:=r_2.cell
 have froz_r:=r_2.frozen
 have lt_r:=r_2.lt
 go_upto_region 2 with fail
 refine wp_forget1 (w0:=w2) (B:=w2.heap.size) (b0:=w2.heap.size) (t0:=159) (c0:=#[.slice G' gs.length cg',.slice O' 0 co']) ?_ ?_ ?_
 (focus exact blkcBy)
 (focus (exact belBy))
 intro w3 u_3 hX3
 have sX3:=hX3.size
 have u_lt:=u_3.lt
 have b_3:=b_2.trans (hX3.mono (by omega))
 have og_3:=own_below og_2 hX3
 have oo_3:=own_below oo_2 hX3
 have pg_3:=own_below pg_2 hX3
 have po_3:=own_below po_2 hX3
 have x_3:=Blk.past hX3 x_2
 have r_3:=Blk.past hX3 r_2
 clear og_2 oo_2 pg_2 po_2 x_2 r_2 b_2 cell_x froz_x lt_x cell_r froz_r lt_r hX3
 have cell_x:=x_3.cell
 have froz_x:=x_3.frozen
 have lt_x:=x_3.lt
 have cell_r:=r_3.cell
 have froz_r:=r_3.frozen
 have lt_r:=r_3.lt
 have cell_u:=u_3.cell
 have froz_u:=u_3.frozen
 have lt_u:=u_3.lt
 go_wp2_with fail
 refine calls_forget0 (W:=w3) ?_ ?_
 (focus (exact belBy))
 intro X4 hX4
 have sX4:=hX4.size
 refine (iIsWordOf G O none cg co 0 0 gs [] _ (Cells.of_own (own_below og_3 hX4)) hok (by omega) rfl Cells.nil_ (fun j v h=>by simp at h) (by omega)).mono ?_
 rintro e w4 ⟨rfl,hb4⟩
 have s4:=hb4.size
 have hT4:=hX4.trans (hb4.mono sX4)
 have b_4:=b_3.trans (hT4.mono (by omega))
 have og_4:=own_below og_3 hT4
 have oo_4:=own_below oo_3 hT4
 have pg_4:=own_below pg_3 hT4
 have po_4:=own_below po_3 hT4
 have x_4:=Blk.past hT4 x_3
 have r_4:=Blk.past hT4 r_3
 have u_4:=Blk.past hT4 u_3
 clear og_3 oo_3 pg_3 po_3 x_3 r_3 u_3 b_3 cell_x froz_x lt_x cell_r froz_r lt_r cell_u froz_u lt_u hX4 hT4 hb4
 have cell_x:=x_4.cell
 have froz_x:=x_4.frozen
 have lt_x:=x_4.lt
 have cell_r:=r_4.cell
 have froz_r:=r_4.frozen
 have lt_r:=r_4.lt
 have cell_u:=u_4.cell
 have froz_u:=u_4.frozen
 have lt_u:=u_4.lt
 go_wp2_with fail
 refine calls_forget1 (W:=w4) (b0:=w4.heap.size) (t0:=3) (c0:=#[.int .i64 n]) ?_ ?_ ?_
 (focus exact blkcBy)
 (focus (exact belBy))
 intro X5 q_n hX5
 have sX5:=hX5.size
 have q_lt:=q_n.lt
 refine (iNib1 n _ _ _ q_n hn).mono ?_
 rintro e w' ⟨rfl,rfl⟩
 have b_5:=b_4.trans (hX5.mono (by omega))
 have og_5:=own_below og_4 hX5
 have oo_5:=own_below oo_4 hX5
 have pg_5:=own_below pg_4 hX5
 have po_5:=own_below po_4 hX5
 have x_5:=Blk.past hX5 x_4
 have r_5:=Blk.past hX5 r_4
 have u_5:=Blk.past hX5 u_4
 have q_5:=q_n
 clear og_4 oo_4 pg_4 po_4 x_4 r_4 u_4 b_4 cell_x froz_x lt_x cell_r froz_r lt_r cell_u froz_u lt_u q_n hX5
 have cell_x:=x_5.cell
 have froz_x:=x_5.frozen
 have lt_x:=x_5.lt
 have cell_r:=r_5.cell
 have froz_r:=r_5.frozen
 have lt_r:=r_5.lt
 have cell_u:=u_5.cell
 have froz_u:=u_5.frozen
 have lt_u:=u_5.lt
 have cell_q:=q_5.cell
 have froz_q:=q_5.frozen
 have lt_q:=q_5.lt
 clear cell_q froz_q lt_q
 clear q_5
 clear cell_x froz_x lt_x
 clear x_5
 clear og_5
 clear oo_5
 have HB:=hid (show Bld TI X5 w.heap.size w2.heap.size gs (.slice O' 0 co') from ⟨G',cg',u_5,by omega,own_weak pg_5 (by omega)⟩)
 have HR:=hid (And.intro r_5 (And.intro (own_weak (base':=w.heap.size) po_5 (by omega)) b_5))
 have zw:w.heap.size≤X5.heap.size:=b_5.size
 have zr:w.heap.size + 1 < X5.heap.size:=r_5.lt
 clear pg_5 po_5 r_5 u_5 b_5 cell_r froz_r lt_r cell_u froz_u lt_u pg_in po_in
 go_upto_region 5 with fail
 obtain ⟨w9,hw9⟩:∃ w9,w9=X5.alloc (.cells #[] 3):=⟨_,rfl⟩
 have hb:Below X5.heap.size X5 w9:=by rw [hw9]; exact (Below.refl _ _).alloc (Nat.le_refl _) _
 have ho9:RowI w9 X5.heap.size 0 0 []:=by rw [hw9]; exact Row.new #[] (Nat.zero_le _) rfl rfl
 rw [←hw9]
 have H9:=hid (And.intro ((HB.out).below hb) (And.intro (ho9) ((Stay.of_below (T:=TI) (lo:=w.heap.size) hb))))
 have hbk:=(HB.out).len
 clear ho9 hb hw9
 go_wp2_with fail
 go_loopw [7,8] (fun o i wr=>∃ (m g k:Nat),m≤4∧i=.int .i64 (m:Int)∧o=.slice (some ⟨g,0,none⟩) m k∧X5.heap.size≤g∧Bld TI wr w.heap.size w2.heap.size (constTo gs n m) (.slice O' 0 co')∧RowI wr g m k (upW gs.length m)∧Stay TI w.heap.size X5 wr) (fun _ i _=>4 - (intOf i).toNat)
 case atStart=>exact ⟨0,X5.heap.size,0,Nat.zero_le _,rfl,rfl,Nat.le_refl _,H9.out.1,H9.out.2.1,H9.out.2.2⟩
 case round =>
  clear H9
  obtain ⟨m,g,k,hm,rfl,rfl,hg,hB,hR,hS⟩:=hrel
  have zr:=hS.size
  by_cases hlt:m < 4
  ·have hlt':(m:Int) < 4:=by omega
   have hlen:(constTo gs n m).length=gs.length + m:=constTo_length _ _ _
   obtain ⟨N1,hN1⟩:∃ N,gs.length + m=N:=⟨_,rfl⟩
   rw [hN1] at hlen
   have HT:=hid (show constTo gs n (m + 1)=constTo gs n m ++ [⟨2,n / (2 ^ m:Nat) % 2,0⟩] from rfl)
   have hB0:=hB
   have H:=hid (And.intro (hB) (And.intro (hR) (hS)))
   clear hB hR hS
   go_wp2_with fail
   refine Calls.mono (iGate (n:=N1) _ _ _ _ (Bld.heap hB0 rfl) hlen (by omega)) ?_
   rintro e w7 ⟨rfl,h,t⟩
   have z3:=t.size
   have hS3:=H.out.2.2.onto t rfl rfl rfl rfl
   have zs3:=hS3.size
   have HR3:=hid (Row.onto H.out.2.1 t rfl (by decide) (by decide))
   have H3:=hid (And.intro (h) (hS3))
   clear h t hS3 hB0 H
   go_wp2_with (at_builtin; refine app_int rfl _ _ rfl rfl (HR3.out.alloc _) [((N1 + 0:Nat):Int)] rfl rfl (top_cells _ [_] _) (by omega) ?_)
   intro g' k' w8 h1 h2 h3
   have h2:=grown_alloc h2
   have hg':X5.heap.size≤g':=by (try simp at h3); omega
   have H8:=hid (And.intro ((bld_cast (gs':=constTo gs n (m + 1)) (H3.out.1.grown h2 HR3.out (by decide)) (by rw [HT.out,nib_and hn.1 hn.2]))) (And.intro ((row_eq (ys:=upW gs.length (m + 1)) h1 (by first | (rw [upW,←hN1]; done) | (rw [upW,←hN1]; simp)))) ((H3.out.2.grown h2 (by omega)))))
   clear h1 h2 h3 H3 HR3
   go_wp2
   go_roundw
   case rel=>exact ⟨m + 1,g',k',by omega,by go_num,rfl,hg',H8.out.1,H8.out.2.1,H8.out.2.2⟩
   case measure=>simp [intOf]; omega
  ·obtain rfl:m=4:=by omega
   have hg0:=hg
   have hg:w.heap.size≤g:=by omega
   have HZ:=hid (And.intro hB (And.intro hR hS))
   have zz:=hS.size
   clear hB hR hS
   obtain ⟨Az,cz,hu,hlo,hgz⟩:=HZ.out.1
   have cell_u:=hu.cell
   have froz_u:=hu.frozen
   have lt_u:=hu.lt
   have hr:=HZ.out.2.2.blk HR.out.1 (by decide) (by decide)
   have cell_r:=hr.cell
   have froz_r:=hr.frozen
   have lt_r:=hr.lt
   have hlz:(constTo gs n 4).length=gs.length + 4:=by rw [constTo_length]
   have HF:=hid (And.intro hlz (And.intro hgz (And.intro (HZ.out.2.2.own HR.out.2.1 (by decide) (by decide)) (And.intro HZ.out.2.1 (And.intro (HR.out.2.2.trans (HZ.out.2.2.below zw)) hr)))))
   have hne:w2.heap.size≠w.heap.size + 1:=by omega
   rw [hlz] at cell_u
   clear hu hgz hr hlz
   go_wp2
   ((try simp only [Exit.inBlock,Exit.then]); apply bodyPost_ret0; focus ((try simp only [results,Tryz.results90]); (try go_simp); (try rfl)))
   exact gives_w HF.out.1 HF.out.2.1 HF.out.2.2.1 HF.out.2.2.2.1 HF.out.2.2.2.2.1 hg HF.out.2.2.2.2.2 (by omega) (by exact tchBy)
set_option linter.unusedVariables false in
set_option maxRecDepth 100000 in
set_option maxHeartbeats 3200000 in
theorem iBitwise {gs:List Gt} {G O:Option Addr} {cg co bx ox cx bY oy cy:Nat} {xs ys:List Int} (q:Int) (w:World) (hg:w.ownsRow 0 TG 3 (.slice G gs.length cg) gs.length (ints (flatG gs))) (ho:w.ownsRow 0 3 1 (.slice O 0 co) 0 (ints [])) (hl:gs.length≤5000)
  (hx:Wd w (some ⟨bx,ox,none⟩) xs) (hy:Wd w (some ⟨bY,oy,none⟩) ys) (hx4:xs.length=4) (hy4:ys.length=4) :
  Calls Tryz.prog 163 #[.agg #[.slice G gs.length cg,.slice O 0 co],.int .i64 q,.slice (some ⟨bx,ox,none⟩) 4 cx,.slice (some ⟨bY,oy,none⟩) 4 cy] w (GivesW w (bitTo gs q xs ys 4) (upW gs.length 4)):=by
 have HX:=hid (And.intro hx hy)
 clear hx hy
 go_enter Tryz.func163,Tryz.ntmps163
 have b_0:=(Below.refl w.heap.size w)
 have s_0:=b_0.size
 have og_in:=own_in hg
 have og_0:=hg
 clear hg
 have oo_in:=own_in ho
 have oo_0:=ho
 clear ho
 go_upto_region 1 with fail
 refine wp_forget2 (w0:=w) (B:=w.heap.size) (b0:=w.heap.size) (t0:=40) (c0:=#[.slice G gs.length cg,.slice O 0 co]) (b1:=w.heap.size + 1) (t1:=40) (c1:=#[.slice none 0 0,.slice none 0 0]) ?_ ?_ ?_ ?_
 (focus exact blkcBy)
 (focus exact blkcBy)
 (focus (exact belBy))
 intro w1 x_1 r_1 hX1
 have sX1:=hX1.size
 have x_lt:=x_1.lt
 have r_lt:=r_1.lt
 have b_1:=b_0.trans (hX1.mono (by omega))
 have og_1:=own_below og_0 hX1
 have oo_1:=own_below oo_0 hX1
 clear og_0 oo_0 b_0 hX1
 have cell_x:=x_1.cell
 have froz_x:=x_1.frozen
 have lt_x:=x_1.lt
 have cell_r:=r_1.cell
 have froz_r:=r_1.frozen
 have lt_r:=r_1.lt
 go_wp2_with fail
 refine calls_forget0 (W:=w1) ?_ ?_
 (focus (exact belBy))
 intro X2 hX2
 have sX2:=hX2.size
 refine (iCopyC _ _ _ _ _ _ (flatG gs) [] _ (own_below og_1 hX2) (own_below oo_1 hX2) (by omega) (by omega)).mono ?_
 rintro e w2 ⟨G',cg',O',co',rfl,pg_2,po_2,hb2⟩
 have s2:=hb2.size
 have hT2:=hX2.trans (hb2.mono sX2)
 have b_2:=b_1.trans (hT2.mono (by omega))
 have og_2:=own_below og_1 hT2
 have oo_2:=own_below oo_1 hT2
 have x_2:=Blk.past hT2 x_1
 have r_2:=Blk.past hT2 r_1
 have pg_in:=own_in pg_2
 have po_in:=own_in po_2
 clear og_1 oo_1 x_1 r_1 b_1 cell_x froz_x lt_x cell_r froz_r lt_r hX2 hT2 hb2
 have cell_x:=x_2.cell
 have froz_x:=x_2.frozen
 have lt_x:=x_2.lt
 have cell_r:=r_2.cell
 have froz_r:=r_2.frozen
 have lt_r:=r_2.lt
 go_upto_region 2 with fail
 refine wp_forget1 (w0:=w2) (B:=w2.heap.size) (b0:=w2.heap.size) (t0:=159) (c0:=#[.slice G' gs.length cg',.slice O' 0 co']) ?_ ?_ ?_
 (focus exact blkcBy)
 (focus (exact belBy))
 intro w3 u_3 hX3
 have sX3:=hX3.size
 have u_lt:=u_3.lt
 have b_3:=b_2.trans (hX3.mono (by omega))
 have og_3:=own_below og_2 hX3
 have oo_3:=own_below oo_2 hX3
 have pg_3:=own_below pg_2 hX3
 have po_3:=own_below po_2 hX3
 have x_3:=Blk.past hX3 x_2
 have r_3:=Blk.past hX3 r_2
 clear og_2 oo_2 pg_2 po_2 x_2 r_2 b_2 cell_x froz_x lt_x cell_r froz_r lt_r hX3
 have cell_x:=x_3.cell
 have froz_x:=x_3.frozen
 have lt_x:=x_3.lt
 have cell_r:=r_3.cell
 have froz_r:=r_3.frozen
 have lt_r:=r_3.lt
 have cell_u:=u_3.cell
 have froz_u:=u_3.frozen
 have lt_u:=u_3.lt
 clear cell_x froz_x lt_x
 clear x_3
 clear og_3
 clear oo_3
 have HB:=hid (show Bld TI w3 w.heap.size w2.heap.size gs (.slice O' 0 co') from ⟨G',cg',u_3,by omega,own_weak pg_3 (by omega)⟩)
 have HR:=hid (And.intro r_3 (And.intro (own_weak (base':=w.heap.size) po_3 (by omega)) b_3))
 have zw:w.heap.size≤w3.heap.size:=b_3.size
 have zr:w.heap.size + 1 < w3.heap.size:=r_3.lt
 clear pg_3 po_3 r_3 u_3 b_3 cell_r froz_r lt_r cell_u froz_u lt_u pg_in po_in
 have HX3:=hid (And.intro (HX.out.1.below HR.out.2.2) (HX.out.2.below HR.out.2.2))
 go_upto_region 3 with fail
 obtain ⟨w9,hw9⟩:∃ w9,w9=w3.alloc (.cells #[] 3):=⟨_,rfl⟩
 have hb:Below w3.heap.size w3 w9:=by rw [hw9]; exact (Below.refl _ _).alloc (Nat.le_refl _) _
 have ho9:RowI w9 w3.heap.size 0 0 []:=by rw [hw9]; exact Row.new #[] (Nat.zero_le _) rfl rfl
 rw [←hw9]
 have H9:=hid (And.intro ((HB.out).below hb) (And.intro ((HX3.out.1).below hb) (And.intro ((HX3.out.2).below hb) (And.intro (ho9) ((Stay.of_below (T:=TI) (lo:=w.heap.size) hb))))))
 have hbk:=(HB.out).len
 have hl_bx:=(HX3.out.1).lt
 have hl_bY:=(HX3.out.2).lt
 clear ho9 hb hw9
 go_wp2_with fail
 go_loopw [11,12,20] (fun o _ i wr=>∃ (m g k:Nat),m≤4∧i=.int .i64 (m:Int)∧o=.slice (some ⟨g,0,none⟩) m k∧w3.heap.size≤g∧Bld TI wr w.heap.size w2.heap.size (bitTo gs q xs ys m) (.slice O' 0 co')∧Wd wr (some ⟨bx,ox,none⟩) xs∧Wd wr (some ⟨bY,oy,none⟩) ys∧RowI wr g m k (upW gs.length m)∧Stay TI w.heap.size w3 wr) (fun _ _ i _=>4 - (intOf i).toNat)
 case atStart=>exact ⟨0,w3.heap.size,0,Nat.zero_le _,rfl,rfl,Nat.le_refl _,H9.out.1,H9.out.2.1,H9.out.2.2.1,H9.out.2.2.2.1,H9.out.2.2.2.2⟩
 case round =>
  clear H9
  obtain ⟨m,g,k,hm,rfl,rfl,hg,hB,hW0,hW1,hR,hS⟩:=hrel
  have zr:=hS.size
  by_cases hlt:m < 4
  ·have hlt':(m:Int) < 4:=by omega
   obtain ⟨x0,e0⟩:∃ x,xs[m]? = some x:=⟨_,List.getElem?_eq_getElem (by omega)⟩
   have d0:=hW0.cell e0
   have g0:=getD_at e0
   have lx0:bx < wr.heap.size:=by omega
   obtain ⟨x1,e1⟩:∃ x,ys[m]? = some x:=⟨_,List.getElem?_eq_getElem (by omega)⟩
   have d1:=hW1.cell e1
   have g1:=getD_at e1
   have lx1:bY < wr.heap.size:=by omega
   have hlen:(bitTo gs q xs ys m).length=gs.length + m:=bitTo_length _ _ _ _ _
   obtain ⟨N1,hN1⟩:∃ N,gs.length + m=N:=⟨_,rfl⟩
   rw [hN1] at hlen
   have HT:=hid (show bitTo gs q xs ys (m + 1)=bitTo gs q xs ys m ++ [⟨q,x0,x1⟩] from by rw [bitTo,g0,g1])
   have hB0:=hB
   have H:=hid (And.intro (hB) (And.intro (hW0) (And.intro (hW1) (And.intro (hR) (hS)))))
   have hnb:N1≤100000:=by omega
   have hti:3≠TI:=by decide
   have hX0:=hW0
   have hX1:=hW1
   have hR0:=hid hR
   clear hB hW0 hW1 hR hS g0 g1
   go_upto_region 6 with fail
   have ne0:bx≠g:=by omega
   have ne1:bY≠g:=by omega
   have hm6:m + 1≤1000000:=by omega
   have htg:3≠TG:=by decide
   have hR0:=hR0.out
   go_region_held3 (fun w'=>w'.cell? ⟨bx,ox + m,none⟩=some (.int .i64 x0)∧w'.cell? ⟨bY,oy + m,none⟩=some (.int .i64 x1)) (first | exact ⟨d0,d1⟩ | exact ⟨d0',d1'⟩ | exact ⟨d0'' _,d1'' _⟩ | exact ⟨d0z,d1z⟩) (first | (go_at_call 158; refine Calls.mono (iGate (n:=N1) _ _ _ _ (Bld.heap hB0 rfl) hlen hnb) ?_; rintro e w7 ⟨rfl,h,t⟩; have HR3:=hid (Row.onto hR0 t rfl hti htg); have d0':=(Wd.onto hX0 t rfl hti).cell e0; have d0'':=fun O=>((Wd.onto hX0 t rfl hti).below ((Below.refl w7.heap.size w7).alloc (Nat.le_refl _) O)).cell e0; have d1':=(Wd.onto hX1 t rfl hti).cell e1; have d1'':=fun O=>((Wd.onto hX1 t rfl hti).below ((Below.refl w7.heap.size w7).alloc (Nat.le_refl _) O)).cell e1) | (refine app_int_step rfl _ _ rfl rfl (HR3.out.alloc _) [((N1 + 0:Nat):Int)] rfl rfl (top_cells _ [_] _) Nat.one_pos hm6 ?_; intro g' k' w8 h1 h2 h3; have h2:=grown_alloc h2; have d0z:=((Wd.onto hX0 t rfl hti).grown h2 ne0).cell e0; have d1z:=((Wd.onto hX1 t rfl hti).grown h2 ne1).cell e1))
   all_goals
    have z3:=t.size
    have hS3:=H.out.2.2.2.2.onto t rfl rfl rfl rfl
    have zs3:=hS3.size
    have H3:=hid (And.intro (h) (And.intro ((Wd.onto H.out.2.1 t rfl (by decide))) (And.intro ((Wd.onto H.out.2.2.1 t rfl (by decide))) (hS3))))
    clear h t hS3 hB0 H d0 d1 hR0 d0' d0'' d0z e0 hX0 d1' d1'' d1z e1 hX1
    have hg':w3.heap.size≤g':=by (try simp at h3); omega
    have H8:=hid (And.intro ((bld_cast (gs':=bitTo gs q xs ys (m + 1)) (H3.out.1.grown h2 HR3.out (by decide)) (by rw [HT.out]))) (And.intro ((H3.out.2.1.grown h2 (by omega))) (And.intro ((H3.out.2.2.1.grown h2 (by omega))) (And.intro ((row_eq (ys:=upW gs.length (m + 1)) h1 (by first | (rw [upW,←hN1]; done) | (rw [upW,←hN1]; simp)))) ((H3.out.2.2.2.grown h2 (by omega)))))))
    clear h1 h2 h3 H3 HR3
    go_wp2
    go_roundw
    case rel=>exact ⟨m + 1,g',k',by omega,by go_num,rfl,hg',H8.out.1,H8.out.2.1,H8.out.2.2.1,H8.out.2.2.2.1,H8.out.2.2.2.2⟩
    case measure=>simp [intOf]; omega
  ·obtain rfl:m=4:=by omega
   have hg0:=hg
   have hg:w.heap.size≤g:=by omega
   have HZ:=hid (And.intro hB (And.intro hR hS))
   have zz:=hS.size
   clear hB hR hS hW0 hW1
   obtain ⟨Az,cz,hu,hlo,hgz⟩:=HZ.out.1
   have cell_u:=hu.cell
   have froz_u:=hu.frozen
   have lt_u:=hu.lt
   have hr:=HZ.out.2.2.blk HR.out.1 (by decide) (by decide)
   have cell_r:=hr.cell
   have froz_r:=hr.frozen
   have lt_r:=hr.lt
   have hlz:(bitTo gs q xs ys 4).length=gs.length + 4:=by rw [bitTo_length]
   have HF:=hid (And.intro hlz (And.intro hgz (And.intro (HZ.out.2.2.own HR.out.2.1 (by decide) (by decide)) (And.intro HZ.out.2.1 (And.intro (HR.out.2.2.trans (HZ.out.2.2.below zw)) hr)))))
   have hne:w2.heap.size≠w.heap.size + 1:=by omega
   rw [hlz] at cell_u
   clear hu hgz hr hlz
   go_wp2
   ((try simp only [Exit.inBlock,Exit.then]); apply bodyPost_ret0; focus ((try simp only [results,Tryz.results163]); (try go_simp); (try rfl)))
   exact gives_w HF.out.1 HF.out.2.1 HF.out.2.2.1 HF.out.2.2.2.1 HF.out.2.2.2.2.1 hg HF.out.2.2.2.2.2 (by omega) (by exact tchBy)
set_option linter.unusedVariables false in
set_option maxRecDepth 100000 in
set_option maxHeartbeats 3200000 in
theorem iInputWord {gs:List Gt} {G O:Option Addr} {cg co:Nat} (p n:Int) (w:World) (hg:w.ownsRow 0 TG 3 (.slice G gs.length cg) gs.length (ints (flatG gs))) (ho:w.ownsRow 0 3 1 (.slice O 0 co) 0 (ints [])) (hl:gs.length≤5000) (hp:0≤p∧p≤4) (hn:0≤n∧n≤3) :
  Calls Tryz.prog 159 #[.agg #[.slice G gs.length cg,.slice O 0 co],.int .i64 p,.int .i64 n] w (GivesW w (inTo gs p n 4) (upW gs.length 4)):=by
 go_enter Tryz.func159,Tryz.ntmps159
 have b_0:=(Below.refl w.heap.size w)
 have s_0:=b_0.size
 have og_in:=own_in hg
 have og_0:=hg
 clear hg
 have oo_in:=own_in ho
 have oo_0:=ho
 clear ho
 go_upto_region 1 with fail
 refine wp_forget2 (w0:=w) (B:=w.heap.size) (b0:=w.heap.size) (t0:=40) (c0:=#[.slice G gs.length cg,.slice O 0 co]) (b1:=w.heap.size + 1) (t1:=40) (c1:=#[.slice none 0 0,.slice none 0 0]) ?_ ?_ ?_ ?_
 (focus exact blkcBy)
 (focus exact blkcBy)
 (focus (exact belBy))
 intro w1 x_1 r_1 hX1
 have sX1:=hX1.size
 have x_lt:=x_1.lt
 have r_lt:=r_1.lt
 have b_1:=b_0.trans (hX1.mono (by omega))
 have og_1:=own_below og_0 hX1
 have oo_1:=own_below oo_0 hX1
 clear og_0 oo_0 b_0 hX1
 have cell_x:=x_1.cell
 have froz_x:=x_1.frozen
 have lt_x:=x_1.lt
 have cell_r:=r_1.cell
 have froz_r:=r_1.frozen
 have lt_r:=r_1.lt
 go_wp2_with fail
 refine calls_forget0 (W:=w1) ?_ ?_
 (focus (exact belBy))
 intro X2 hX2
 have sX2:=hX2.size
 refine (iCopyC _ _ _ _ _ _ (flatG gs) [] _ (own_below og_1 hX2) (own_below oo_1 hX2) (by omega) (by omega)).mono ?_
 rintro e w2 ⟨G',cg',O',co',rfl,pg_2,po_2,hb2⟩
 have s2:=hb2.size
 have hT2:=hX2.trans (hb2.mono sX2)
 have b_2:=b_1.trans (hT2.mono (by omega))
 have og_2:=own_below og_1 hT2
 have oo_2:=own_below oo_1 hT2
 have x_2:=Blk.past hT2 x_1
 have r_2:=Blk.past hT2 r_1
 have pg_in:=own_in pg_2
 have po_in:=own_in po_2
 clear og_1 oo_1 x_1 r_1 b_1 cell_x froz_x lt_x cell_r froz_r lt_r hX2 hT2 hb2
 have cell_x:=x_2.cell
 have froz_x:=x_2.frozen
 have lt_x:=x_2.lt
 have cell_r:=r_2.cell
 have froz_r:=r_2.frozen
 have lt_r:=r_2.lt
 go_upto_region 2 with fail
 refine wp_forget1 (w0:=w2) (B:=w2.heap.size) (b0:=w2.heap.size) (t0:=159) (c0:=#[.slice G' gs.length cg',.slice O' 0 co']) ?_ ?_ ?_
 (focus exact blkcBy)
 (focus (exact belBy))
 intro w3 u_3 hX3
 have sX3:=hX3.size
 have u_lt:=u_3.lt
 have b_3:=b_2.trans (hX3.mono (by omega))
 have og_3:=own_below og_2 hX3
 have oo_3:=own_below oo_2 hX3
 have pg_3:=own_below pg_2 hX3
 have po_3:=own_below po_2 hX3
 have x_3:=Blk.past hX3 x_2
 have r_3:=Blk.past hX3 r_2
 clear og_2 oo_2 pg_2 po_2 x_2 r_2 b_2 cell_x froz_x lt_x cell_r froz_r lt_r hX3
 have cell_x:=x_3.cell
 have froz_x:=x_3.frozen
 have lt_x:=x_3.lt
 have cell_r:=r_3.cell
 have froz_r:=r_3.frozen
 have lt_r:=r_3.lt
 have cell_u:=u_3.cell
 have froz_u:=u_3.frozen
 have lt_u:=u_3.lt
 clear cell_x froz_x lt_x
 clear x_3
 clear og_3
 clear oo_3
 have HB:=hid (show Bld TI w3 w.heap.size w2.heap.size gs (.slice O' 0 co') from ⟨G',cg',u_3,by omega,own_weak pg_3 (by omega)⟩)
 have HR:=hid (And.intro r_3 (And.intro (own_weak (base':=w.heap.size) po_3 (by omega)) b_3))
 have zw:w.heap.size≤w3.heap.size:=b_3.size
 have zr:w.heap.size + 1 < w3.heap.size:=r_3.lt
 clear pg_3 po_3 r_3 u_3 b_3 cell_r froz_r lt_r cell_u froz_u lt_u pg_in po_in
 go_upto_region 3 with fail
 obtain ⟨w9,hw9⟩:∃ w9,w9=w3.alloc (.cells #[] 3):=⟨_,rfl⟩
 have hb:Below w3.heap.size w3 w9:=by rw [hw9]; exact (Below.refl _ _).alloc (Nat.le_refl _) _
 have ho9:RowI w9 w3.heap.size 0 0 []:=by rw [hw9]; exact Row.new #[] (Nat.zero_le _) rfl rfl
 rw [←hw9]
 have H9:=hid (And.intro ((HB.out).below hb) (And.intro (ho9) ((Stay.of_below (T:=TI) (lo:=w.heap.size) hb))))
 have hbk:=(HB.out).len
 clear ho9 hb hw9
 go_wp2_with fail
 go_loopw [9,10] (fun o i wr=>∃ (m g k:Nat),m≤4∧i=.int .i64 (m:Int)∧o=.slice (some ⟨g,0,none⟩) m k∧w3.heap.size≤g∧Bld TI wr w.heap.size w2.heap.size (inTo gs p n m) (.slice O' 0 co')∧RowI wr g m k (upW gs.length m)∧Stay TI w.heap.size w3 wr) (fun _ i _=>4 - (intOf i).toNat)
 case atStart=>exact ⟨0,w3.heap.size,0,Nat.zero_le _,rfl,rfl,Nat.le_refl _,H9.out.1,H9.out.2.1,H9.out.2.2⟩
 case round =>
  clear H9
  obtain ⟨m,g,k,hm,rfl,rfl,hg,hB,hR,hS⟩:=hrel
  have zr:=hS.size
  by_cases hlt:m < 4
  ·have hlt':(m:Int) < 4:=by omega
   have hlen:(inTo gs p n m).length=gs.length + m:=inTo_length _ _ _ _
   obtain ⟨N1,hN1⟩:∃ N,gs.length + m=N:=⟨_,rfl⟩
   rw [hN1] at hlen
   have HT:=hid (show inTo gs p n (m + 1)=inTo gs p n m ++ [⟨1,(p * 4 + n) * 4 + m,0⟩] from rfl)
   have hB0:=hB
   have H:=hid (And.intro (hB) (And.intro (hR) (hS)))
   clear hB hR hS
   go_wp2_with fail
   refine Calls.mono (iGate (n:=N1) _ _ _ _ (Bld.heap hB0 rfl) hlen (by omega)) ?_
   rintro e w7 ⟨rfl,h,t⟩
   have z3:=t.size
   have hS3:=H.out.2.2.onto t rfl rfl rfl rfl
   have zs3:=hS3.size
   have HR3:=hid (Row.onto H.out.2.1 t rfl (by decide) (by decide))
   have H3:=hid (And.intro (h) (hS3))
   clear h t hS3 hB0 H
   go_wp2_with (at_builtin; refine app_int rfl _ _ rfl rfl (HR3.out.alloc _) [((N1 + 0:Nat):Int)] rfl rfl (top_cells _ [_] _) (by omega) ?_)
   intro g' k' w8 h1 h2 h3
   have h2:=grown_alloc h2
   have hg':w3.heap.size≤g':=by (try simp at h3); omega
   have H8:=hid (And.intro ((bld_cast (gs':=inTo gs p n (m + 1)) (H3.out.1.grown h2 HR3.out (by decide)) (by rw [HT.out]))) (And.intro ((row_eq (ys:=upW gs.length (m + 1)) h1 (by first | (rw [upW,←hN1]; done) | (rw [upW,←hN1]; simp)))) ((H3.out.2.grown h2 (by omega)))))
   clear h1 h2 h3 H3 HR3
   go_wp2
   go_roundw
   case rel=>exact ⟨m + 1,g',k',by omega,by go_num,rfl,hg',H8.out.1,H8.out.2.1,H8.out.2.2⟩
   case measure=>simp [intOf]; omega
  ·obtain rfl:m=4:=by omega
   have hg0:=hg
   have hg:w.heap.size≤g:=by omega
   have HZ:=hid (And.intro hB (And.intro hR hS))
   have zz:=hS.size
   clear hB hR hS
   obtain ⟨Az,cz,hu,hlo,hgz⟩:=HZ.out.1
   have cell_u:=hu.cell
   have froz_u:=hu.frozen
   have lt_u:=hu.lt
   have hr:=HZ.out.2.2.blk HR.out.1 (by decide) (by decide)
   have cell_r:=hr.cell
   have froz_r:=hr.frozen
   have lt_r:=hr.lt
   have hlz:(inTo gs p n 4).length=gs.length + 4:=by rw [inTo_length]
   have HF:=hid (And.intro hlz (And.intro hgz (And.intro (HZ.out.2.2.own HR.out.2.1 (by decide) (by decide)) (And.intro HZ.out.2.1 (And.intro (HR.out.2.2.trans (HZ.out.2.2.below zw)) hr)))))
   have hne:w2.heap.size≠w.heap.size + 1:=by omega
   rw [hlz] at cell_u
   clear hu hgz hr hlz
   go_wp2
   ((try simp only [Exit.inBlock,Exit.then]); apply bodyPost_ret0; focus ((try simp only [results,Tryz.results159]); (try go_simp); (try rfl)))
   exact gives_w HF.out.1 HF.out.2.1 HF.out.2.2.1 HF.out.2.2.2.1 HF.out.2.2.2.2.1 hg HF.out.2.2.2.2.2 (by omega) (by exact tchBy)
set_option linter.unusedVariables false in
set_option maxRecDepth 100000 in
set_option maxHeartbeats 3200000 in
theorem sBits4 {lo bp bx ox cx bY oy cy:Nat} {gs:List Gt} {O:Value} {xs ys:List Int} (q:Int) (w:World) (h:Bld TS w lo bp gs O) (hs:gs.length≤50000) (hx:Wd w (some ⟨bx,ox,none⟩) xs) (hy:Wd w (some ⟨bY,oy,none⟩) ys) (hx4:xs.length=4) (hy4:ys.length=4) :
  Calls Tryz.prog 118 #[.pointer (some ⟨bp,0,none⟩),.int .i64 q,.slice (some ⟨bx,ox,none⟩) 4 cx,.slice (some ⟨bY,oy,none⟩) 4 cy] w fun e w'=>∃ g k,e=.returned (.slice (some ⟨g,0,none⟩) 4 k)∧w.heap.size≤g∧RowI w' g 4 k (upW gs.length 4)∧Bld TS w' lo bp (bitTo gs q xs ys 4) O∧Stay TS lo w w':=by
 have H0:=hid (And.intro h (And.intro hx hy))
 clear h hx hy
 go_enter Tryz.func118,Tryz.ntmps118
 go_upto_region 2 with fail
 obtain ⟨w9,hw9⟩:∃ w9,w9=w.alloc (.cells #[] 3):=⟨_,rfl⟩
 have hb:Below w.heap.size w w9:=by rw [hw9]; exact (Below.refl _ _).alloc (Nat.le_refl _) _
 have ho9:RowI w9 w.heap.size 0 0 []:=by rw [hw9]; exact Row.new #[] (Nat.zero_le _) rfl rfl
 rw [←hw9]
 have H9:=hid (And.intro ((H0.out.1).below hb) (And.intro ((H0.out.2.1).below hb) (And.intro ((H0.out.2.2).below hb) (And.intro (ho9) ((Stay.of_below (T:=TS) (lo:=lo) hb))))))
 have hbk:=(H0.out.1).len
 have hl_bx:=(H0.out.2.1).lt
 have hl_bY:=(H0.out.2.2).lt
 clear ho9 hb hw9
 go_wp2_with fail
 go_loopw [9,10] (fun o i wr=>∃ (m g k:Nat),m≤4∧i=.int .i64 (m:Int)∧o=.slice (some ⟨g,0,none⟩) m k∧w.heap.size≤g∧Bld TS wr lo bp (bitTo gs q xs ys m) O∧Wd wr (some ⟨bx,ox,none⟩) xs∧Wd wr (some ⟨bY,oy,none⟩) ys∧RowI wr g m k (upW gs.length m)∧Stay TS lo w wr) (fun _ i _=>4 - (intOf i).toNat)
 case atStart=>exact ⟨0,w.heap.size,0,Nat.zero_le _,rfl,rfl,Nat.le_refl _,H9.out.1,H9.out.2.1,H9.out.2.2.1,H9.out.2.2.2.1,H9.out.2.2.2.2⟩
 case round =>
  clear H9
  obtain ⟨m,g,k,hm,rfl,rfl,hg,hB,hW0,hW1,hR,hS⟩:=hrel
  have zr:=hS.size
  by_cases hlt:m < 4
  ·have hlt':(m:Int) < 4:=by omega
   obtain ⟨x0,e0⟩:∃ x,xs[m]? = some x:=⟨_,List.getElem?_eq_getElem (by omega)⟩
   have d0:=hW0.cell e0
   have g0:=getD_at e0
   have lx0:bx < wr.heap.size:=by omega
   obtain ⟨x1,e1⟩:∃ x,ys[m]? = some x:=⟨_,List.getElem?_eq_getElem (by omega)⟩
   have d1:=hW1.cell e1
   have g1:=getD_at e1
   have lx1:bY < wr.heap.size:=by omega
   have hlen:(bitTo gs q xs ys m).length=gs.length + m:=bitTo_length _ _ _ _ _
   obtain ⟨N1,hN1⟩:∃ N,gs.length + m=N:=⟨_,rfl⟩
   rw [hN1] at hlen
   have HT:=hid (show bitTo gs q xs ys (m + 1)=bitTo gs q xs ys m ++ [⟨q,x0,x1⟩] from by rw [bitTo,g0,g1])
   have hB0:=hB
   have H:=hid (And.intro (hB) (And.intro (hW0) (And.intro (hW1) (And.intro (hR) (hS)))))
   have hnb:N1≤100000:=by omega
   have hti:3≠TS:=by decide
   have hX0:=hW0
   have hX1:=hW1
   have hR0:=hid hR
   clear hB hW0 hW1 hR hS g0 g1
   go_upto_region 5 with fail
   have ne0:bx≠g:=by omega
   have ne1:bY≠g:=by omega
   have hm6:m + 1≤1000000:=by omega
   have htg:3≠TG:=by decide
   have hR0:=hR0.out
   go_region_held3 (fun w'=>w'.cell? ⟨bx,ox + m,none⟩=some (.int .i64 x0)∧w'.cell? ⟨bY,oy + m,none⟩=some (.int .i64 x1)) (first | exact ⟨d0,d1⟩ | exact ⟨d0',d1'⟩ | exact ⟨d0'' _,d1'' _⟩ | exact ⟨d0z,d1z⟩) (first | (go_at_call 114; refine Calls.mono (sGate (n:=N1) _ _ _ _ (Bld.heap hB0 rfl) hlen hnb) ?_; rintro e w7 ⟨rfl,h,t⟩; have HR3:=hid (Row.onto hR0 t rfl hti htg); have d0':=(Wd.onto hX0 t rfl hti).cell e0; have d0'':=fun O=>((Wd.onto hX0 t rfl hti).below ((Below.refl w7.heap.size w7).alloc (Nat.le_refl _) O)).cell e0; have d1':=(Wd.onto hX1 t rfl hti).cell e1; have d1'':=fun O=>((Wd.onto hX1 t rfl hti).below ((Below.refl w7.heap.size w7).alloc (Nat.le_refl _) O)).cell e1) | (refine app_int_step rfl _ _ rfl rfl (HR3.out.alloc _) [((N1 + 0:Nat):Int)] rfl rfl (top_cells _ [_] _) Nat.one_pos hm6 ?_; intro g' k' w8 h1 h2 h3; have h2:=grown_alloc h2; have d0z:=((Wd.onto hX0 t rfl hti).grown h2 ne0).cell e0; have d1z:=((Wd.onto hX1 t rfl hti).grown h2 ne1).cell e1))
   all_goals
    have z3:=t.size
    have hS3:=H.out.2.2.2.2.onto t rfl rfl rfl rfl
    have zs3:=hS3.size
    have H3:=hid (And.intro (h) (And.intro ((Wd.onto H.out.2.1 t rfl (by decide))) (And.intro ((Wd.onto H.out.2.2.1 t rfl (by decide))) (hS3))))
    clear h t hS3 hB0 H d0 d1 hR0 d0' d0'' d0z e0 hX0 d1' d1'' d1z e1 hX1
    have hg':w.heap.size≤g':=by (try simp at h3); omega
    have H8:=hid (And.intro ((bld_cast (gs':=bitTo gs q xs ys (m + 1)) (H3.out.1.grown h2 HR3.out (by decide)) (by rw [HT.out]))) (And.intro ((H3.out.2.1.grown h2 (by omega))) (And.intro ((H3.out.2.2.1.grown h2 (by omega))) (And.intro ((row_eq (ys:=upW gs.length (m + 1)) h1 (by first | (rw [upW,←hN1]; done) | (rw [upW,←hN1]; simp)))) ((H3.out.2.2.2.grown h2 (by omega)))))))
    clear h1 h2 h3 H3 HR3
    go_wp2
    go_roundw
    case rel=>exact ⟨m + 1,g',k',by omega,by go_num,rfl,hg',H8.out.1,H8.out.2.1,H8.out.2.2.1,H8.out.2.2.2.1,H8.out.2.2.2.2⟩
    case measure=>simp [intOf]; omega
  ·obtain rfl:m=4:=by omega
   have H:=hid (And.intro hB (And.intro hR hS))
   clear hB hR hS hW0 hW1
   go_wp2
   go_returns
   exact ⟨g,k,rfl,hg,H.out.2.1,H.out.1,H.out.2.2⟩
open Go.RowKit
theorem lessG_length (gs:List Gt) (ws bs:List Int):(lessG gs ws bs).length=gs.length + bs.length + 22:=by
 simp [lessG,sumTo_length,notsG_length]
def GivesI (w:World) (gs:List Gt) (z:Int) (e:Ending) (w':World):Prop :=
 ∃ G cg O co,e=.returned (.tuple #[.agg #[.slice G gs.length cg,.slice O 0 co],.int .i64 z])∧w'.ownsRow w.heap.size TG 3 (.slice G gs.length cg) gs.length (ints (flatG gs)) ∧
  w'.ownsRow w.heap.size 3 1 (.slice O 0 co) 0 []∧Below w.heap.size w w'
theorem gives_i {w wz w':World} {gs:List Gt} {z z':Int} {G O:Option Addr} {n cg co p:Nat} (hn:gs.length=n) (h1:wz.ownsRow w.heap.size TG 3 (.slice G gs.length cg) gs.length (ints (flatG gs))) (h2:wz.ownsRow w.heap.size 3 1 (.slice O 0 co) 0 [])
  (h4:Below w.heap.size w wz) {cs:Array Value} (hr:Blk wz p TS cs) (hp:w.heap.size≤p) (ht:Touch [p] wz w') (hz:z=z') :
  GivesI w gs z' (.returned (.tuple #[.agg #[.slice G n cg,.slice O 0 co],.int .i64 z])) w':=by
 subst hn
 subst hz
 have hm:∀ q,q≠p→q ∉ [p]:=fun q h=>by simp [h]
 exact ⟨G,cg,O,co,rfl,own_touch' ht h1 (fun q hq=>hm q (own_ne_obj h1 hr (by decide) q hq)),own_touch' ht h2 (fun q hq=>hm q (own_ne_obj h2 hr (by decide) q hq)),
  ht.below' h4 (fun i hi=>by simp at hi; omega) h4.size⟩
set_option linter.unusedVariables false in
set_option maxRecDepth 100000 in
set_option maxHeartbeats 3200000 in
theorem sLess {lo bp bx ox cx bY oy cy:Nat} {gs:List Gt} {O:Value} {xs ys:List Int} (w:World) (h:Bld TS w lo bp gs O) (hs:gs.length≤5000) (hx:Wd w (some ⟨bx,ox,none⟩) xs) (hy:Wd w (some ⟨bY,oy,none⟩) ys) (hx4:xs.length=4) (hy4:ys.length=4) :
  Calls Tryz.prog 119 #[.pointer (some ⟨bp,0,none⟩),.slice (some ⟨bx,ox,none⟩) 4 cx,.slice (some ⟨bY,oy,none⟩) 4 cy] w fun e w'=>e=.returned (.int .i64 ((gs.length + 25:Nat):Int))∧Bld TS w' lo bp (lessG gs xs ys) O∧Stay TS lo w w':=by
 have H0:=hid (And.intro h (And.intro hx hy))
 clear h hx hy
 go_enter Tryz.func119,Tryz.ntmps119
 go_wp2_with fail
 refine Calls.mono (sNots (n:=gs.length) (N:=4) _ H0.out.1 rfl (by omega) H0.out.2.2 hy4 (by omega)) ?_
 rintro e w91 ⟨g0,k0,rfl,hg0,hrow,hbl,hst⟩
 have z1:=hst.size
 obtain ⟨gs1,hgs1⟩:∃ l,notsG gs ys=l:=⟨_,rfl⟩
 have hl1:gs1.length=gs.length + 4:=by rw [←hgs1,notsG_length,hy4]
 obtain ⟨bs1,hbs1⟩:∃ l,upW gs.length 4=l:=⟨_,rfl⟩
 have hbl4:bs1.length=4:=by rw [←hbs1]; exact upW_length _ _
 rw [hgs1] at hbl
 rw [hbs1] at hrow
 have H1:=hid (And.intro hbl (And.intro ((H0.out.2.1).stay hst (by decide)) (And.intro (Wd.of_row hrow) hst)))
 have HE:=hid (And.intro hgs1 hbs1)
 clear hbl hrow hst hgs1 hbs1
 go_wp2_with fail
 refine (sGate (n:=gs1.length) _ _ _ _ H1.out.1 rfl (by omega)).mono ?_
 rintro e w92 ⟨rfl,h,t⟩
 have z2:=t.size
 have H2:=hid (And.intro h (And.intro (H1.out.2.1.stay t (by decide)) (And.intro (H1.out.2.2.1.stay t (by decide)) (H1.out.2.2.2.trans t))))
 have hl_b:=H2.out.2.1.lt
 have hl_g:=H2.out.2.2.1.lt
 have hbk:=(H2.out.1).len
 clear h t H1
 have hal:∀ m,m < 4→xs[m]? = some (xs.getD m 0)∧bs1[m]? = some (bs1.getD m 0):=fun m hm=>by
  rw [List.getD_eq_getElem?_getD,List.getD_eq_getElem?_getD,List.getElem?_eq_getElem (show m < xs.length by omega),List.getElem?_eq_getElem (show m < bs1.length by omega)]
  exact ⟨rfl,rfl⟩
 have HAL:=hid hal
 clear hal
 go_wp2_with fail
 go_loopw [8,9,10,11] (fun c i _ _ wr=>∃ (m:Nat),m≤4∧i=.int .i64 (m:Int)∧(∃ C:Int,c=.int .i64 C∧C=((gs1.length + 5 * m:Nat):Int))∧Bld TS wr lo bp (sumTo gs1 xs bs1 1 m) O∧Wd wr (some ⟨bx,ox,none⟩) xs∧Wd wr (some ⟨g0,0,none⟩) bs1∧Stay TS lo w wr) (fun _ i _ _ _=>4 - (intOf i).toNat)
 case atStart=>exact ⟨0,Nat.zero_le _,rfl,⟨_,rfl,by omega⟩,H2.out.1,H2.out.2.1,H2.out.2.2.1,H2.out.2.2.2⟩
 case round =>
  clear H2
  obtain ⟨m,hm,rfl,⟨C,rfl,hC⟩,hB,hX,hY,hS⟩:=hrel
  have HC:=hid hC
  have zr:=hS.size
  obtain ⟨N1,hN1⟩:∃ N,gs1.length + 5 * m + 1=N:=⟨_,rfl⟩
  have hlen:=sumTo_length gs1 xs bs1 1 m
  rw [hN1] at hlen
  have hnb:N1≤90000:=by omega
  have hB0:=hB
  have hX0:=hX
  have hY0:=hY
  have hti:3≠TS:=by decide
  by_cases hlt:m < 4
  ·have hlt':(m:Int) < 4:=by omega
   obtain ⟨e1,e2⟩:=HAL.out m hlt
   obtain ⟨xa,hxa⟩:∃ x,xs.getD m 0=x:=⟨_,rfl⟩
   obtain ⟨ya,hya⟩:∃ x,bs1.getD m 0=x:=⟨_,rfl⟩
   rw [hxa] at e1
   rw [hya] at e2
   have HXY:=hid (And.intro hxa hya)
   have d1:=hX.cell e1
   have d2:=hY.cell e2
   rw [Nat.zero_add] at d2
   have lx:=hX.lt
   have ly:=hY.lt
   have H:=hid (And.intro hB (And.intro hX (And.intro hY hS)))
   clear hB hX hY hS hxa hya hC
   go_upto_region 6 with fail
   go_region_held3 (fun w'=>w'.cell? ⟨bx,ox + m,none⟩=some (.int .i64 xa)∧w'.cell? ⟨g0,m,none⟩=some (.int .i64 ya)) (first | exact ⟨d1,d2⟩ | exact ⟨d1',d2'⟩) ((go_at_call 174; refine Calls.mono (sFull (n:=N1) _ _ _ _ (Bld.heap hB0 rfl) hlen hnb) ?_; rintro e w3 ⟨rfl,h,t⟩; have d1':=(Wd.onto hX0 t rfl hti).cell e1; have d2':=(Wd.onto hY0 t rfl hti).cell e2; rw [Nat.zero_add] at d2'))
   all_goals
    have z3:=t.size
    have hS3:=H.out.2.2.2.onto t rfl rfl rfl rfl
    have zs:=hS3.size
    have H3:=hid (And.intro h (And.intro (Wd.onto H.out.2.1 t rfl (by decide)) (And.intro (Wd.onto H.out.2.2.1 t rfl (by decide)) hS3)))
    clear h t hS3 H d1 d2 hB0 hX0 hY0 e1 e2 d1' d2'
    go_wp2
    go_roundw
    case rel =>
     exact ⟨m + 1,by omega,by go_num,⟨_,rfl,by omega⟩,bld_cast H3.out.1 (by rw [sumTo,HXY.out.1,HXY.out.2,HC.out]),H3.out.2.1,H3.out.2.2.1,H3.out.2.2.2⟩
    case measure=>simp [intOf]; omega
  ·obtain rfl:m=4:=by omega
   have hC2:C=((gs.length + ys.length + 20:Nat):Int):=by omega
   have hN2:N1=gs.length + 25:=by omega
   have H:=hid (And.intro hB hS)
   have HC2:=hid hC2
   clear hB hX hY hS hC hX0 hY0 hC2
   go_wp2_with fail
   refine (sGate (n:=N1) _ _ _ _ (Bld.heap hB0 rfl) hlen (by omega)).mono ?_
   rintro e w5 ⟨rfl,h,t⟩
   have z5:=t.size
   have hS5:=H.out.2.trans t
   have hB5:=bld_cast (gs':=lessG gs xs ys) h (by rw [←HE.out.1,←HE.out.2,HC2.out]; rfl)
   have zz:=hS5.size
   have H5:=hid (And.intro hB5 hS5)
   clear h t hS5 hB5 H hB0 hlen
   go_wp2
   go_returns
   exact ⟨by first | rfl | (simp; done) | (rw [hN2]; done),H5.out.1,H5.out.2⟩
set_option linter.unusedVariables false in
set_option maxRecDepth 100000 in
set_option maxHeartbeats 3200000 in
theorem iWordLess {gs:List Gt} {G O:Option Addr} {cg co bx ox cx bY oy cy:Nat} {xs ys:List Int} (w:World) (hg:w.ownsRow 0 TG 3 (.slice G gs.length cg) gs.length (ints (flatG gs))) (ho:w.ownsRow 0 3 1 (.slice O 0 co) 0 (ints [])) (hok:gatesB 0 gs=true) (hl:gs.length≤5000)
  (hx:Wd w (some ⟨bx,ox,none⟩) xs) (hy:Wd w (some ⟨bY,oy,none⟩) ys) (hwx:wordB4 gs.length xs=true) (hwy:wordB4 gs.length ys=true) :
  Calls Tryz.prog 164 #[.agg #[.slice G gs.length cg,.slice O 0 co],.slice (some ⟨bx,ox,none⟩) 4 cx,.slice (some ⟨bY,oy,none⟩) 4 cy] w (GivesI w (lessG gs xs ys) (gs.length + 25:Nat)):=by
 have HX:=hid (And.intro hx hy)
 have hx4:=(wordB4_at hwx).1
 have hy4:=(wordB4_at hwy).1
 clear hx hy
 go_enter Tryz.func164,Tryz.ntmps164
 have b_0:=(Below.refl w.heap.size w)
 have s_0:=b_0.size
 have og_in:=own_in hg
 have og_0:=hg
 clear hg
 have oo_in:=own_in ho
 have oo_0:=ho
 clear ho
 go_upto_region 1 with fail
 refine wp_forget2 (w0:=w) (B:=w.heap.size) (b0:=w.heap.size) (t0:=40) (c0:=#[.slice G gs.length cg,.slice O 0 co]) (b1:=w.heap.size + 1) (t1:=40) (c1:=#[.slice none 0 0,.slice none 0 0]) ?_ ?_ ?_ ?_
 (focus exact blkcBy)
 (focus exact blkcBy)
 (focus (exact belBy))
 intro w1 x_1 r_1 hX1
 have sX1:=hX1.size
 have x_lt:=x_1.lt
 have r_lt:=r_1.lt
 have b_1:=b_0.trans (hX1.mono (by omega))
 have og_1:=own_below og_0 hX1
 have oo_1:=own_below oo_0 hX1
 clear og_0 oo_0 b_0 hX1
 have cell_x:=x_1.cell
 have froz_x:=x_1.frozen
 have lt_x:=x_1.lt
 have cell_r:=r_1.cell
 have froz_r:=r_1.frozen
 have lt_r:=r_1.lt
 go_wp2_with fail
 refine calls_forget0 (W:=w1) ?_ ?_
 (focus (exact belBy))
 intro X2 hX2
 have sX2:=hX2.size
 refine (iCopyC _ _ _ _ _ _ (flatG gs) [] _ (own_below og_1 hX2) (own_below oo_1 hX2) (by omega) (by omega)).mono ?_
 rintro e w2 ⟨G',cg',O',co',rfl,pg_2,po_2,hb2⟩
 have s2:=hb2.size
 have hT2:=hX2.trans (hb2.mono sX2)
 have b_2:=b_1.trans (hT2.mono (by omega))
 have og_2:=own_below og_1 hT2
 have oo_2:=own_below oo_1 hT2
 have x_2:=Blk.past hT2 x_1
 have r_2:=Blk.past hT2 r_1
 have pg_in:=own_in pg_2
 have po_in:=own_in po_2
 clear og_1 oo_1 x_1 r_1 b_1 cell_x froz_x lt_x cell_r froz_r lt_r hX2 hT2 hb2
 have cell_x:=x_2.cell
 have froz_x:=x_2.frozen
 have lt_x:=x_2.lt
 have cell_r:=r_2.cell
 have froz_r:=r_2.frozen
 have lt_r:=r_2.lt
 go_upto_region 2 with fail
 refine wp_forget1 (w0:=w2) (B:=w2.heap.size) (b0:=w2.heap.size) (t0:=159) (c0:=#[.slice G' gs.length cg',.slice O' 0 co']) ?_ ?_ ?_
 (focus exact blkcBy)
 (focus (exact belBy))
 intro w3 u_3 hX3
 have sX3:=hX3.size
 have u_lt:=u_3.lt
 have b_3:=b_2.trans (hX3.mono (by omega))
 have og_3:=own_below og_2 hX3
 have oo_3:=own_below oo_2 hX3
 have pg_3:=own_below pg_2 hX3
 have po_3:=own_below po_2 hX3
 have x_3:=Blk.past hX3 x_2
 have r_3:=Blk.past hX3 r_2
 clear og_2 oo_2 pg_2 po_2 x_2 r_2 b_2 cell_x froz_x lt_x cell_r froz_r lt_r hX3
 have cell_x:=x_3.cell
 have froz_x:=x_3.frozen
 have lt_x:=x_3.lt
 have cell_r:=r_3.cell
 have froz_r:=r_3.frozen
 have lt_r:=r_3.lt
 have cell_u:=u_3.cell
 have froz_u:=u_3.frozen
 have lt_u:=u_3.lt
 go_wp2_with fail
 refine calls_forget1 (W:=w3) (b0:=w3.heap.size) (t0:=30) (c0:=#[.slice (some ⟨bx,ox,none⟩) 4 cx,.slice (some ⟨bY,oy,none⟩) 4 cy]) ?_ ?_ ?_
 (focus exact blkcBy)
 (focus (exact belBy))
 intro X4 q_n hX4
 have sX4:=hX4.size
 have q_lt:=q_n.lt
 refine (iIsWordOf G O _ cg co 2 2 gs [.slice (some ⟨bx,ox,none⟩) 4 cx,.slice (some ⟨bY,oy,none⟩) 4 cy] _ (Cells.of_own (own_below og_3 hX4)) hok (by omega) rfl (cells_vals q_n) (words2 (HX.out.1.below (b_3.trans (hX4.mono (by omega)))) (HX.out.2.below (b_3.trans (hX4.mono (by omega)))) hwx hwy) (by omega)).mono ?_
 rintro e w4 ⟨rfl,hb4⟩
 have s4:=hb4.size
 have hT4:=hX4.trans (hb4.mono sX4)
 have b_4:=b_3.trans (hT4.mono (by omega))
 have og_4:=own_below og_3 hT4
 have oo_4:=own_below oo_3 hT4
 have pg_4:=own_below pg_3 hT4
 have po_4:=own_below po_3 hT4
 have x_4:=Blk.past hT4 x_3
 have r_4:=Blk.past hT4 r_3
 have u_4:=Blk.past hT4 u_3
 have q_4:=Blk.past hb4 q_n
 clear og_3 oo_3 pg_3 po_3 x_3 r_3 u_3 b_3 cell_x froz_x lt_x cell_r froz_r lt_r cell_u froz_u lt_u q_n hX4 hT4 hb4
 have cell_x:=x_4.cell
 have froz_x:=x_4.frozen
 have lt_x:=x_4.lt
 have cell_r:=r_4.cell
 have froz_r:=r_4.frozen
 have lt_r:=r_4.lt
 have cell_u:=u_4.cell
 have froz_u:=u_4.frozen
 have lt_u:=u_4.lt
 have cell_q:=q_4.cell
 have froz_q:=q_4.frozen
 have lt_q:=q_4.lt
 clear cell_q froz_q lt_q
 clear q_4
 clear cell_x froz_x lt_x
 clear x_4
 clear og_4
 clear oo_4
 have HB:=hid (show Bld TI w4 w.heap.size w2.heap.size gs (.slice O' 0 co') from ⟨G',cg',u_4,by omega,own_weak pg_4 (by omega)⟩)
 have HR:=hid (And.intro r_4 (And.intro (own_weak (base':=w.heap.size) po_4 (by omega)) b_4))
 have zw:w.heap.size≤w4.heap.size:=b_4.size
 have zr:w.heap.size + 1 < w4.heap.size:=r_4.lt
 have HX4:=hid (And.intro (HX.out.1.below b_4) (HX.out.2.below b_4))
 clear pg_4 po_4 r_4 u_4 b_4 cell_r froz_r lt_r cell_u froz_u lt_u pg_in po_in
 go_wp2_with fail
 refine Calls.mono (iNots (n:=gs.length) (N:=4) _ HB.out rfl (by omega) HX4.out.2 hy4 (by omega)) ?_
 rintro e w91 ⟨g0,k0,rfl,hg0,hrow,hbl,hst⟩
 have z1:=hst.size
 obtain ⟨gs1,hgs1⟩:∃ l,notsG gs ys=l:=⟨_,rfl⟩
 have hl1:gs1.length=gs.length + 4:=by rw [←hgs1,notsG_length,hy4]
 obtain ⟨bs1,hbs1⟩:∃ l,upW gs.length 4=l:=⟨_,rfl⟩
 have hbl4:bs1.length=4:=by rw [←hbs1]; exact upW_length _ _
 rw [hgs1] at hbl
 rw [hbs1] at hrow
 have H1:=hid (And.intro hbl (And.intro ((HX4.out.1).stay hst (by decide)) (And.intro (Wd.of_row hrow) hst)))
 have HE:=hid (And.intro hgs1 hbs1)
 clear hbl hrow hst hgs1 hbs1
 go_wp2_with fail
 refine (iGate (n:=gs1.length) _ _ _ _ H1.out.1 rfl (by omega)).mono ?_
 rintro e w92 ⟨rfl,h,t⟩
 have z2:=t.size
 have H2:=hid (And.intro h (And.intro (H1.out.2.1.stay t (by decide)) (And.intro (H1.out.2.2.1.stay t (by decide)) (H1.out.2.2.2.trans t))))
 have hl_b:=H2.out.2.1.lt
 have hl_g:=H2.out.2.2.1.lt
 have hbk:=(H2.out.1).len
 clear h t H1
 have hal:∀ m,m < 4→xs[m]? = some (xs.getD m 0)∧bs1[m]? = some (bs1.getD m 0):=fun m hm=>by
  rw [List.getD_eq_getElem?_getD,List.getD_eq_getElem?_getD,List.getElem?_eq_getElem (show m < xs.length by omega),List.getElem?_eq_getElem (show m < bs1.length by omega)]
  exact ⟨rfl,rfl⟩
 have HAL:=hid hal
 clear hal
 go_wp2_with fail
 go_loopw [10,11,34] (fun c _ i wr=>∃ (m:Nat),m≤4∧i=.int .i64 (m:Int)∧(∃ C:Int,c=.int .i64 C∧C=((gs1.length + 5 * m:Nat):Int))∧Bld TI wr w.heap.size w2.heap.size (sumTo gs1 xs bs1 1 m) (.slice O' 0 co')∧Wd wr (some ⟨bx,ox,none⟩) xs∧Wd wr (some ⟨g0,0,none⟩) bs1∧Stay TI w.heap.size w4 wr) (fun _ _ i _=>4 - (intOf i).toNat)
 case atStart=>exact ⟨0,Nat.zero_le _,rfl,⟨_,rfl,by omega⟩,H2.out.1,H2.out.2.1,H2.out.2.2.1,H2.out.2.2.2⟩
 case round =>
  clear H2
  obtain ⟨m,hm,rfl,⟨C,rfl,hC⟩,hB,hX,hY,hS⟩:=hrel
  have HC:=hid hC
  have zr:=hS.size
  obtain ⟨N1,hN1⟩:∃ N,gs1.length + 5 * m + 1=N:=⟨_,rfl⟩
  have hlen:=sumTo_length gs1 xs bs1 1 m
  rw [hN1] at hlen
  have hnb:N1≤90000:=by omega
  have hB0:=hB
  have hX0:=hX
  have hY0:=hY
  have hti:3≠TI:=by decide
  by_cases hlt:m < 4
  ·have hlt':(m:Int) < 4:=by omega
   obtain ⟨e1,e2⟩:=HAL.out m hlt
   obtain ⟨xa,hxa⟩:∃ x,xs.getD m 0=x:=⟨_,rfl⟩
   obtain ⟨ya,hya⟩:∃ x,bs1.getD m 0=x:=⟨_,rfl⟩
   rw [hxa] at e1
   rw [hya] at e2
   have HXY:=hid (And.intro hxa hya)
   have d1:=hX.cell e1
   have d2:=hY.cell e2
   rw [Nat.zero_add] at d2
   have lx:=hX.lt
   have ly:=hY.lt
   have H:=hid (And.intro hB (And.intro hX (And.intro hY hS)))
   clear hB hX hY hS hxa hya hC
   go_upto_region 9 with fail
   go_region_held3 (fun w'=>w'.cell? ⟨bx,ox + m,none⟩=some (.int .i64 xa)∧w'.cell? ⟨g0,m,none⟩=some (.int .i64 ya)) (first | exact ⟨d1,d2⟩ | exact ⟨d1',d2'⟩) ((go_at_call 188; refine Calls.mono (iFull (n:=N1) _ _ _ _ (Bld.heap hB0 rfl) hlen hnb) ?_; rintro e w3 ⟨rfl,h,t⟩; have d1':=(Wd.onto hX0 t rfl hti).cell e1; have d2':=(Wd.onto hY0 t rfl hti).cell e2; rw [Nat.zero_add] at d2'))
   all_goals
    have z3:=t.size
    have hS3:=H.out.2.2.2.onto t rfl rfl rfl rfl
    have zs:=hS3.size
    have H3:=hid (And.intro h (And.intro (Wd.onto H.out.2.1 t rfl (by decide)) (And.intro (Wd.onto H.out.2.2.1 t rfl (by decide)) hS3)))
    clear h t hS3 H d1 d2 hB0 hX0 hY0 e1 e2 d1' d2'
    go_wp2
    go_roundw
    case rel =>
     exact ⟨m + 1,by omega,by go_num,⟨_,rfl,by omega⟩,bld_cast H3.out.1 (by rw [sumTo,HXY.out.1,HXY.out.2,HC.out]),H3.out.2.1,H3.out.2.2.1,H3.out.2.2.2⟩
    case measure=>simp [intOf]; omega
  ·obtain rfl:m=4:=by omega
   have hC2:C=((gs.length + ys.length + 20:Nat):Int):=by omega
   have hN2:N1=gs.length + 25:=by omega
   have H:=hid (And.intro hB hS)
   have HC2:=hid hC2
   clear hB hX hY hS hC hX0 hY0 hC2
   go_wp2_with fail
   refine (iGate (n:=N1) _ _ _ _ (Bld.heap hB0 rfl) hlen (by omega)).mono ?_
   rintro e w5 ⟨rfl,h,t⟩
   have z5:=t.size
   have hS5:=H.out.2.trans t
   have hB5:=bld_cast (gs':=lessG gs xs ys) h (by rw [←HE.out.1,←HE.out.2,HC2.out]; rfl)
   have zz:=hS5.size
   have H5:=hid (And.intro hB5 hS5)
   clear h t hS5 hB5 H hB0 hlen
   obtain ⟨Az,cz,hu,hlo,hgz⟩:=H5.out.1
   have cell_u:=hu.cell
   have froz_u:=hu.frozen
   have lt_u:=hu.lt
   have hr:=H5.out.2.blk HR.out.1 (by decide) (by decide)
   have cell_r:=hr.cell
   have froz_r:=hr.frozen
   have lt_r:=hr.lt
   have hlz:(lessG gs xs ys).length=gs.length + 26:=by rw [lessG_length,hy4]
   have HF:=hid (And.intro hlz (And.intro hgz (And.intro (H5.out.2.own HR.out.2.1 (by decide) (by decide)) (And.intro (HR.out.2.2.trans (H5.out.2.below zw)) hr))))
   have hne:w2.heap.size≠w.heap.size + 1:=by omega
   rw [hlz] at cell_u
   clear hu hgz hr hlz
   go_wp2
   ((try simp only [Exit.inBlock,Exit.then]); apply bodyPost_ret0; focus ((try simp only [results,Tryz.results164]); (try go_simp); (try rfl)))
   refine gives_i (HF.out.1.trans (by first | rfl | omega)) HF.out.2.1 HF.out.2.2.1 HF.out.2.2.2.1 HF.out.2.2.2.2 (by omega) (by exact tchBy) (by first | rfl | (simp; done) | (rw [hN2]; done))
end Go.Proofs.YtihbaieiempjeaaGreat
