/- Lemmas of the proof: Sum, Grow, Grow2, Grow3, Grow4, CopyC. -/
import Derived.Test.YtihbaieiempjeaaGreatD5
import Derived.Deep.RegionHeld3
import Derived.Test.YtihbaieiempjeaaGreatD0
import Derived.StillTail
import Derived.Laws.OwnMore
import Derived.BigQuiet
namespace Go.Proofs.YtihbaieiempjeaaGreat
open Go.RowKit
theorem bld_cast {T lo bp:Nat} {w:World} {gs gs':List Gt} {O:Value} (h:Bld T w lo bp gs O) (e:gs=gs'):Bld T w lo bp gs' O:=e ▸ h
theorem row_eq {w:World} {g n c:Nat} {xs ys:List Int} (h:RowI w g n c xs) (e:xs=ys):RowI w g n c ys:=e ▸ h
theorem ints_inv {xs:List Int} {j:Nat} {u:Value} (h:(ints xs)[j]? = some u):∃ x,xs[j]? = some x∧.int .i64 x=u:=by
 unfold ints at h
 rw [List.getElem?_map] at h
 cases hx:xs[j]? with
 | none=>rw [hx] at h; cases h
 | some x=>rw [hx] at h; injection h with h; exact ⟨x,rfl,h⟩
set_option linter.unusedVariables false in
set_option maxRecDepth 100000 in
set_option maxHeartbeats 3200000 in
theorem iSum {lo bp:Nat} {gs:List Gt} {O:Value} {n:Nat} {bx ox cx bY oy cy:Nat} {xs ys:List Int} (first:Int) (f:Nat) (w:World) (h:Bld TI w lo bp gs O) (hn:gs.length=n) (hs:n≤50000) (hx:Wd w (some ⟨bx,ox,none⟩) xs) (hy:Wd w (some ⟨bY,oy,none⟩) ys) (hxl:xs.length=4) (hyl:ys.length=4) (hf:f≤3) (hcx:4≤cx) :
  Calls Tryz.prog 186 #[.pointer (some ⟨bp,0,none⟩),.slice (some ⟨bx,ox,none⟩) 4 cx,.slice (some ⟨bY,oy,none⟩) 4 cy,.int .i64 first,.int .i64 (f:Int)] w fun e w'=>∃ g k,e=.returned (.slice (some ⟨g,0,none⟩) 4 k)∧w.heap.size≤g∧RowI w' g 4 k (xs.take f ++ sumW n (3 - f))∧Bld TI w' lo bp (sumG gs (xs.drop f) (ys.drop f) first (3 - f)) O∧Stay TI lo w w':=by
 subst hn
 have hbx:=hx.lt
 have hby:=hy.lt
 have hbp:=h.len
 obtain ⟨az,hza⟩:∃ a,xs.drop f=a:=⟨_,rfl⟩
 obtain ⟨bs,hzb⟩:∃ a,ys.drop f=a:=⟨_,rfl⟩
 obtain ⟨M,hM⟩:∃ M,3 - f=M:=⟨_,rfl⟩
 obtain ⟨pre,hpre⟩:∃ a,xs.take f=a:=⟨_,rfl⟩
 have hal:∀ m,m≤M→xs[f + m]? = some (az.getD m 0)∧ys[f + m]? = some (bs.getD m 0):=fun m hm=>by
  rw [←hza,←hzb,List.getD_eq_getElem?_getD,List.getD_eq_getElem?_getD,List.getElem?_drop,List.getElem?_drop,List.getElem?_eq_getElem (show f + m < xs.length by omega),List.getElem?_eq_getElem (show f + m < ys.length by omega)]
  exact ⟨rfl,rfl⟩
 have hpl:pre.length=f:=by rw [←hpre,List.length_take]; omega
 have HPC:=hid (show ∀ j u,(ints pre)[j]? = some u→w.cell? ⟨bx,ox + j,none⟩=some u from fun j u hu=>by
  obtain ⟨x,hx1,rfl⟩:=ints_inv hu
  rw [←hpre,List.getElem?_take] at hx1
  split at hx1
  ·exact hx.cell hx1
  ·cases hx1)
 rw [hza,hzb,hM,hpre]
 have HAL:=hid hal
 have H0:=hid (And.intro h (And.intro hx hy))
 clear h hx hy hal
 go_enter Tryz.func186,Tryz.ntmps186
 have hfc:(f:Int)≤(cx:Int):=by omega
 go_wp2_with fail
 refine (iIntsAt _ _ HPC.out hbx hpl (by omega)).mono ?_
 rintro e w1 ⟨go,ko,rfl,hgo,ho,hb⟩
 have z1:=hb.size
 have H1:=hid (And.intro (H0.out.1.below hb) (And.intro (H0.out.2.1.below hb) (And.intro (H0.out.2.2.below hb) (And.intro ho (Stay.of_below (T:=TI) (lo:=lo) hb)))))
 clear ho hb H0 HPC
 go_wp2_with fail
 refine (iGate (n:=gs.length) _ _ _ _ H1.out.1 rfl (by omega)).mono ?_
 rintro e w2 ⟨rfl,h,t⟩
 have z2:=t.size
 have H2:=hid (And.intro h (And.intro (H1.out.2.1.stay t (by decide)) (And.intro (H1.out.2.2.1.stay t (by decide)) (And.intro (t.row H1.out.2.2.2.1 (by decide) (by decide)) (H1.out.2.2.2.2.trans t)))))
 clear h t H1
 go_wp2_with fail
 go_loopw [11,12,13,14,15] (fun o c i _ _ wr=>∃ (m q g k:Nat),m≤M∧q=f + m∧i=.int .i64 (q:Int)∧(∃ C:Int,c=.int .i64 C∧C=((gs.length + 5 * m:Nat):Int))∧o=.slice (some ⟨g,0,none⟩) q k∧w.heap.size≤g∧Bld TI wr lo bp (sumTo gs az bs first m) O∧Wd wr (some ⟨bx,ox,none⟩) xs∧Wd wr (some ⟨bY,oy,none⟩) ys∧RowI wr g q k (pre ++ sumWs gs.length m)∧Stay TI lo w wr) (fun _ _ i _ _ _=>3 - (intOf i).toNat)
 case atStart=>exact ⟨0,f,go,ko,Nat.zero_le _,rfl,rfl,⟨_,rfl,rfl⟩,rfl,hgo,H2.out.1,H2.out.2.1,H2.out.2.2.1,by show RowI _ _ _ _ (pre ++ []); rw [List.append_nil]; exact H2.out.2.2.2.1,H2.out.2.2.2.2⟩
 case round =>
  clear H2
  obtain ⟨m,q,g,k,hm,hq,rfl,⟨C,rfl,hC⟩,rfl,hg,hB,hX,hY,hR,hS⟩:=hrel
  have HC:=hid hC
  have zr:=hS.size
  obtain ⟨e1,e2⟩:=HAL.out m hm
  rw [←hq] at e1 e2
  have HQ:=hid hq
  clear hq
  obtain ⟨xa,hxa⟩:∃ x,az.getD m 0=x:=⟨_,rfl⟩
  obtain ⟨ya,hya⟩:∃ x,bs.getD m 0=x:=⟨_,rfl⟩
  rw [hxa] at e1
  rw [hya] at e2
  have HXY:=hid (And.intro hxa hya)
  have d1:=hX.cell e1
  have d2:=hY.cell e2
  have lx:bx < wr.heap.size:=by omega
  have ly:bY < wr.heap.size:=by omega
  obtain ⟨N1,hN1⟩:∃ N,gs.length + 5 * m + 1=N:=⟨_,rfl⟩
  have hlen:=sumTo_length gs az bs first m
  rw [hN1] at hlen
  have hnb:N1≤90000:=by omega
  have hB0:=hB
  have hX0:=hX
  have hY0:=hY
  have hti:3≠TI:=by decide
  have H:=hid (And.intro hB (And.intro hX (And.intro hY (And.intro hR hS))))
  clear hB hX hY hR hS hxa hya hC
  by_cases hlt:m < M
  ·have hlt':(q:Int) < 3:=by have:=HQ.out; omega
   have hi4:(q:Int) < 4:=by have:=HQ.out; omega
   have hi0:(0:Int)≤(q:Int):=by omega
   go_upto_region 6 with fail
   go_region_held3 (fun w'=>w'.cell? ⟨bx,ox + q,none⟩=some (.int .i64 xa)∧w'.cell? ⟨bY,oy + q,none⟩=some (.int .i64 ya)) (first | exact ⟨d1,d2⟩ | exact ⟨d1',d2'⟩) ((go_at_call 188; refine Calls.mono (iFull (n:=N1) _ _ _ _ (Bld.heap hB0 rfl) hlen hnb) ?_; rintro e w3 ⟨rfl,h,t⟩; have d1':=(Wd.onto hX0 t rfl hti).cell e1; have d2':=(Wd.onto hY0 t rfl hti).cell e2))
   all_goals
    have z3:=t.size
    have hS3:=H.out.2.2.2.2.onto t rfl rfl rfl rfl
    have zs:=hS3.size
    have HR3:=hid (Row.onto H.out.2.2.2.1 t rfl (by decide) (by decide))
    have H3:=hid (And.intro h (And.intro (Wd.onto H.out.2.1 t rfl (by decide)) (And.intro (Wd.onto H.out.2.2.1 t rfl (by decide)) hS3)))
    clear h t hS3 H d1 d2 hB0 hX0 hY0 e1 e2 d1' d2'
    go_wp2_with (at_builtin; refine app_int rfl _ _ rfl rfl (HR3.out.alloc _) [((N1 + 2:Nat):Int)] rfl rfl (top_cells _ [_] _) (by omega) ?_)
    intro g' k' w4 h1 h2 h3
    have h2:=grown_alloc h2
    have hg':w.heap.size≤g':=by (try simp at h3); omega
    have hne1:bx≠g:=by omega
    have he3:((N1 + 2:Nat):Int)=((gs.length + 5 * m + 3:Nat):Int):=by omega
    have hne2:bY≠g:=by omega
    have H4:=hid (And.intro (H3.out.1.grown h2 HR3.out (by decide)) (And.intro (H3.out.2.1.grown h2 hne1) (And.intro (H3.out.2.2.1.grown h2 hne2) (And.intro (row_eq (ys:=pre ++ sumWs gs.length (m + 1)) h1 (by rw [sumWs,←he3]; first | rfl | simp)) (H3.out.2.2.2.grown h2 hg)))))
    clear h1 h2 h3 H3 HR3
    go_wp2
    go_roundw
    case rel =>
     refine ⟨m + 1,q + 1,g',k',by omega,by have:=HQ.out; omega,by go_num,⟨_,rfl,by omega⟩,rfl,hg',bld_cast H4.out.1 (by rw [sumTo,HXY.out.1,HXY.out.2,HC.out]),H4.out.2.1,H4.out.2.2.1,?_,H4.out.2.2.2.2⟩
     exact H4.out.2.2.2.1
    case measure=>have:=HQ.out; simp [intOf]; omega
  ·obtain rfl:m=M:=by omega
   have h3:q=3:=by have:=HQ.out; omega
   have hlt':¬ (q:Int) < 3:=by omega
   subst h3
   go_upto_region 9 with fail
   go_still_tail 7,(by kernel_rfl)
   go_wp2_with fail
   refine Calls.mono (iGate (n:=N1) _ _ _ _ (Bld.heap hB0 rfl) hlen (by omega)) ?_
   rintro e w3 ⟨rfl,h,t⟩
   have hS3:=H.out.2.2.2.2.onto t rfl rfl rfl rfl
   have H3:=hid (And.intro h (And.intro (Row.onto H.out.2.2.2.1 t rfl (by decide) (by decide)) hS3))
   clear h t hS3 H d1 d2 hB0 hX0 hY0 e1 e2
   go_wp2_with fail
   refine (iGate (n:=N1 + 1) _ _ _ _ H3.out.1 (by rw [List.length_append,hlen]; rfl) (by omega)).mono ?_
   rintro e w5 ⟨rfl,h,t⟩
   have hS5:=H3.out.2.2.trans t
   have zs:=hS5.size
   have HR5:=hid (t.row H3.out.2.1 (by decide) (by decide))
   have H5:=hid (And.intro h hS5)
   clear h t hS5 H3
   go_wp2_with (at_builtin; refine app_int rfl _ _ rfl rfl (HR5.out.alloc _) [((N1 + 1:Nat):Int)] rfl rfl (top_cells _ [_] _) (by omega) ?_)
   intro g' k' w6 h1 h2 h3
   have h2:=grown_alloc h2
   have hg':w.heap.size≤g':=by (try simp at h3); omega
   have he3:((N1 + 1:Nat):Int)=((gs.length + 5 * m + 2:Nat):Int):=by omega
   have H6:=hid (And.intro (H5.out.1.grown h2 HR5.out (by decide)) (And.intro (row_eq (ys:=pre ++ sumW gs.length m) h1 (by rw [sumW,←he3]; first | rfl | simp)) (H5.out.2.grown h2 hg)))
   clear h1 h2 h3 H5 HR5
   go_wp2
   go_returns
   refine ⟨g',k',rfl,hg',?_,?_,H6.out.2.2⟩
   ·exact H6.out.2.1
   ·exact bld_cast H6.out.1 (by unfold sumG; rw [HXY.out.1,HXY.out.2,HC.out]; simp; omega)
set_option linter.unusedVariables false in
set_option maxRecDepth 100000 in
set_option maxHeartbeats 3200000 in
theorem sSum {lo bp:Nat} {gs:List Gt} {O:Value} {n:Nat} {bx ox cx bY oy cy:Nat} {xs ys:List Int} (first:Int) (M:Nat) (w:World) (h:Bld TS w lo bp gs O) (hn:gs.length=n) (hs:n≤50000) (hx:Wd w (some ⟨bx,ox,none⟩) xs) (hy:Wd w (some ⟨bY,oy,none⟩) ys) (hxl:xs.length=M + 1) (hyl:ys.length=M + 1) (hM:M≤100) :
  Calls Tryz.prog 115 #[.pointer (some ⟨bp,0,none⟩),.slice (some ⟨bx,ox,none⟩) (M + 1) cx,.slice (some ⟨bY,oy,none⟩) (M + 1) cy,.int .i64 first] w fun e w'=>∃ g k,e=.returned (.slice (some ⟨g,0,none⟩) (M + 1) k)∧w.heap.size≤g∧RowI w' g (M + 1) k (sumW n M)∧Bld TS w' lo bp (sumG gs xs ys first M) O∧Stay TS lo w w':=by
 subst hn
 have hbx:=hx.lt
 have hby:=hy.lt
 have hbp:=h.len
 have hal:∀ m,m≤M→xs[m]? = some (xs.getD m 0)∧ys[m]? = some (ys.getD m 0):=fun m hm=>by
  rw [List.getD_eq_getElem?_getD,List.getD_eq_getElem?_getD,List.getElem?_eq_getElem (show m < xs.length by omega),List.getElem?_eq_getElem (show m < ys.length by omega)]
  exact ⟨rfl,rfl⟩
 have HAL:=hid hal
 have H0:=hid (And.intro h (And.intro hx hy))
 clear h hx hy hal
 go_enter Tryz.func115,Tryz.ntmps115
 go_upto_region 2 with fail
 obtain ⟨w1,hw1⟩:∃ w1,w1=w.alloc (.cells #[] 3):=⟨_,rfl⟩
 have hb:Below w.heap.size w w1:=by rw [hw1]; exact (Below.refl _ _).alloc (Nat.le_refl _) _
 have ho:RowI w1 w.heap.size 0 0 []:=by rw [hw1]; exact Row.new #[] (Nat.zero_le _) rfl rfl
 rw [←hw1]
 have z1:=hb.size
 have H1:=hid (And.intro (H0.out.1.below hb) (And.intro (H0.out.2.1.below hb) (And.intro (H0.out.2.2.below hb) (And.intro ho (Stay.of_below (T:=TS) (lo:=lo) hb)))))
 clear ho hb H0 hw1
 go_wp2_with fail
 refine (sGate (n:=gs.length) _ _ _ _ H1.out.1 rfl (by omega)).mono ?_
 rintro e w2 ⟨rfl,h,t⟩
 have z2:=t.size
 have H2:=hid (And.intro h (And.intro (H1.out.2.1.stay t (by decide)) (And.intro (H1.out.2.2.1.stay t (by decide)) (And.intro (t.row H1.out.2.2.2.1 (by decide) (by decide)) (H1.out.2.2.2.2.trans t)))))
 clear h t H1
 go_wp2_with fail
 go_loopw [9,10,12,13,14] (fun o c i _ _ wr=>∃ (m g k:Nat),m≤M∧i=.int .i64 (m:Int)∧(∃ C:Int,c=.int .i64 C∧C=((gs.length + 5 * m:Nat):Int))∧o=.slice (some ⟨g,0,none⟩) m k∧w.heap.size≤g∧Bld TS wr lo bp (sumTo gs xs ys first m) O∧Wd wr (some ⟨bx,ox,none⟩) xs∧Wd wr (some ⟨bY,oy,none⟩) ys∧RowI wr g (m) k (sumWs gs.length m)∧Stay TS lo w wr) (fun _ _ i _ _ _=>M - (intOf i).toNat)
 case atStart=>exact ⟨0,w.heap.size,0,Nat.zero_le _,rfl,⟨_,rfl,rfl⟩,rfl,Nat.le_refl _,H2.out.1,H2.out.2.1,H2.out.2.2.1,H2.out.2.2.2.1,H2.out.2.2.2.2⟩
 case round =>
  clear H2
  obtain ⟨m,g,k,hm,rfl,⟨C,rfl,hC⟩,rfl,hg,hB,hX,hY,hR,hS⟩:=hrel
  have HC:=hid hC
  have zr:=hS.size
  obtain ⟨e1,e2⟩:=HAL.out m hm
  obtain ⟨xa,hxa⟩:∃ x,xs.getD m 0=x:=⟨_,rfl⟩
  obtain ⟨ya,hya⟩:∃ x,ys.getD m 0=x:=⟨_,rfl⟩
  rw [hxa] at e1
  rw [hya] at e2
  have HXY:=hid (And.intro hxa hya)
  have d1:=hX.cell e1
  have d2:=hY.cell e2
  have lx:bx < wr.heap.size:=by omega
  have ly:bY < wr.heap.size:=by omega
  obtain ⟨N1,hN1⟩:∃ N,gs.length + 5 * m + 1=N:=⟨_,rfl⟩
  have hlen:=sumTo_length gs xs ys first m
  rw [hN1] at hlen
  have hnb:N1≤90000:=by omega
  have hB0:=hB
  have hX0:=hX
  have hY0:=hY
  have hti:3≠TS:=by decide
  have H:=hid (And.intro hB (And.intro hX (And.intro hY (And.intro hR hS))))
  clear hB hX hY hR hS hxa hya hC
  by_cases hlt:m < M
  ·have hlt':(m:Int) < (M:Int):=by omega
   have hlt2:(m:Int) < (M:Int) + 1:=by omega
   go_upto_region 7 with fail
   go_region_held3 (fun w'=>w'.cell? ⟨bx,ox + m,none⟩=some (.int .i64 xa)∧w'.cell? ⟨bY,oy + m,none⟩=some (.int .i64 ya)) (first | exact ⟨d1,d2⟩ | exact ⟨d1',d2'⟩) ((go_at_call 174; refine Calls.mono (sFull (n:=N1) _ _ _ _ (Bld.heap hB0 rfl) hlen hnb) ?_; rintro e w3 ⟨rfl,h,t⟩; have d1':=(Wd.onto hX0 t rfl hti).cell e1; have d2':=(Wd.onto hY0 t rfl hti).cell e2))
   all_goals
    have z3:=t.size
    have hS3:=H.out.2.2.2.2.onto t rfl rfl rfl rfl
    have zs:=hS3.size
    have HR3:=hid (Row.onto H.out.2.2.2.1 t rfl (by decide) (by decide))
    have H3:=hid (And.intro h (And.intro (Wd.onto H.out.2.1 t rfl (by decide)) (And.intro (Wd.onto H.out.2.2.1 t rfl (by decide)) hS3)))
    clear h t hS3 H d1 d2 hB0 hX0 hY0 e1 e2 d1' d2'
    go_wp2_with (at_builtin; refine app_int rfl _ _ rfl rfl (HR3.out.alloc _) [((N1 + 2:Nat):Int)] rfl rfl (top_cells _ [_] _) (by omega) ?_)
    intro g' k' w4 h1 h2 h3
    have h2:=grown_alloc h2
    have hg':w.heap.size≤g':=by (try simp at h3); omega
    have hne1:bx≠g:=by omega
    have he3:((N1 + 2:Nat):Int)=((gs.length + 5 * m + 3:Nat):Int):=by omega
    have hne2:bY≠g:=by omega
    have H4:=hid (And.intro (H3.out.1.grown h2 HR3.out (by decide)) (And.intro (H3.out.2.1.grown h2 hne1) (And.intro (H3.out.2.2.1.grown h2 hne2) (And.intro (row_eq (ys:=sumWs gs.length (m + 1)) h1 (by rw [sumWs,←he3]; first | rfl | simp)) (H3.out.2.2.2.grown h2 hg)))))
    clear h1 h2 h3 H3 HR3
    go_wp2
    go_roundw
    case rel =>
     exact ⟨m + 1,g',k',by omega,by go_num,⟨_,rfl,by omega⟩,rfl,hg',bld_cast H4.out.1 (by rw [sumTo,HXY.out.1,HXY.out.2,HC.out]),H4.out.2.1,H4.out.2.2.1,H4.out.2.2.2.1,H4.out.2.2.2.2⟩
    case measure=>simp [intOf]; omega
  ·obtain rfl:m=M:=by omega
   have hlt':¬ (m:Int) < (m:Int):=by omega
   have hlt2:(m:Int) < (m:Int) + 1:=by omega
   go_upto_region 10 with fail
   go_still_tail 9,(by kernel_rfl)
   go_wp2_with fail
   refine Calls.mono (sGate (n:=N1) _ _ _ _ (Bld.heap hB0 rfl) hlen (by omega)) ?_
   rintro e w3 ⟨rfl,h,t⟩
   have hS3:=H.out.2.2.2.2.onto t rfl rfl rfl rfl
   have H3:=hid (And.intro h (And.intro (Row.onto H.out.2.2.2.1 t rfl (by decide) (by decide)) hS3))
   clear h t hS3 H d1 d2 hB0 hX0 hY0 e1 e2
   go_wp2_with fail
   refine (sGate (n:=N1 + 1) _ _ _ _ H3.out.1 (by rw [List.length_append,hlen]; rfl) (by omega)).mono ?_
   rintro e w5 ⟨rfl,h,t⟩
   have hS5:=H3.out.2.2.trans t
   have zs:=hS5.size
   have HR5:=hid (t.row H3.out.2.1 (by decide) (by decide))
   have H5:=hid (And.intro h hS5)
   clear h t hS5 H3
   go_wp2_with (at_builtin; refine app_int rfl _ _ rfl rfl (HR5.out.alloc _) [((N1 + 1:Nat):Int)] rfl rfl (top_cells _ [_] _) (by omega) ?_)
   intro g' k' w6 h1 h2 h3
   have h2:=grown_alloc h2
   have hg':w.heap.size≤g':=by (try simp at h3); omega
   have he3:((N1 + 1:Nat):Int)=((gs.length + 5 * m + 2:Nat):Int):=by omega
   have H6:=hid (And.intro (H5.out.1.grown h2 HR5.out (by decide)) (And.intro (row_eq (ys:=sumW gs.length m) h1 (by rw [sumW,←he3]; first | rfl | simp)) (H5.out.2.grown h2 hg)))
   clear h1 h2 h3 H5 HR5
   go_wp2
   go_returns
   refine ⟨g',k',rfl,hg',H6.out.2.1,?_,H6.out.2.2⟩
   exact bld_cast H6.out.1 (by unfold sumG; rw [HXY.out.1,HXY.out.2,HC.out]; simp; omega)
open Go.RowKit
inductive GSpec where
 | det
 | con (c:Value)
 | any (F:Value→World→Prop)
def Facts:=Nat→World→Prop
def Facts.none:Facts:=fun _ _=>True
def Facts.upd (fs:Facts) (k:Nat) (f:World→Prop):Facts:=fun j=>if j=k then f else fs j
theorem Facts.upd_comm (fs:Facts) {i j:Nat} (h:i≠j) (f g:World→Prop):(fs.upd i f).upd j g=(fs.upd j g).upd i f:=by
 funext q
 unfold Facts.upd
 by_cases h1:q=j
 ·by_cases h2:q=i
  ·omega
  ·simp [h1,Ne.symm h]
 ·by_cases h2:q=i
  ·simp [h2,h]
  ·simp [h1,h2]
theorem Facts.upd_ne (fs:Facts) {i j:Nat} (h:i≠j) (f:World→Prop):fs.upd i f j=fs j:=by
 unfold Facts.upd
 simp [Ne.symm h]
theorem Facts.upd_self (fs:Facts) (i:Nat) (f:World→Prop):fs.upd i f i=f:=by
 unfold Facts.upd
 simp
def waits (ops:Array Oper) (j i:Nat):Bool:=Region.waitsFor .any ops j i
def detUpon (w:World) (v:Value):Result Next→Prop
 | .ok (.value u) w'=>w'=w∧u=v
 | .ok .skip w'=>w'=w∧v=undef
 | _=>False
def growUpon (P:Program) (R:World→World→Prop) (F:Value→World→Prop) (w:World):Result Next→Prop
 | .ok (.value u) w'=>R w w'∧F u w'
 | .ok .skip w'=>R w w'∧F undef w'
 | .ok (.enter f args) w'=>Calls P f args w' (fun e w''=>∃ v,e=.returned v∧R w w''∧F v w'')
 | _=>False
def depsHold (ops:Array Oper) (k:Nat) (fs:Facts) (w:World):Prop:=∀ j,waits ops k j=true→fs j w
section
variable (P:Program) (ops:Array Oper) (C:World→Prop) (R:World→World→Prop) (spec:Nat→GSpec)
def gStep (fs:Facts) (k:Nat) (o:Oper) (K:Facts→Act→Prop) (a:Act):Prop :=
 if Region.wanted o (yielded ops a.tmps)=true then
  match spec k with
  | .det=>∃ c,(∀ w,C w→detUpon w c ((execOp a.eval o).run P w))∧K fs (a.put o.dst c)
  | .con c=>(∀ w,C w→depsHold ops k fs w→growUpon P R (fun v _=>v=c) w ((execOp a.eval o).run P w))∧K fs (a.put o.dst c)
  | .any F=>(∀ w,C w→depsHold ops k fs w→growUpon P R F w ((execOp a.eval o).run P w))∧∀ v,K (fs.upd k (F v)) (a.put o.dst v)
 else K fs (a.put o.dst undef)
def gOut (fs:Facts) (k:Nat) (o:Oper) (K:Facts→Act→Prop) (a:Act) (w:World):Prop :=
 if Region.wanted o (yielded ops a.tmps)=true then
  match spec k with
  | .det=>∃ c,detUpon w c ((execOp a.eval o).run P w)∧K fs (a.put o.dst c)
  | .con c=>growUpon P R (fun v _=>v=c) w ((execOp a.eval o).run P w)∧K fs (a.put o.dst c)
  | .any F=>growUpon P R F w ((execOp a.eval o).run P w)∧∀ v,K (fs.upd k (F v)) (a.put o.dst v)
 else K fs (a.put o.dst undef)
def gWalk (E:Facts→Act→Prop):List Nat→Facts→Act→Prop
 | [],fs,a=>E fs a
 | k :: is,fs,a=>match ops[k]? with
  | none=>gWalk E is fs a
  | some o=>gStep P ops C R spec fs k o (fun fs' a'=>gWalk E is fs' a') a
def gList (E:Facts→Act→Prop):Nat→List Oper→Facts→Act→Prop
 | _,[],fs,a=>E fs a
 | k,o :: l,fs,a=>gStep P ops C R spec fs k o (fun fs' a'=>gList E (k + 1) l fs' a') a
end
section
variable {P:Program} {ops:Array Oper} {C:World→Prop} {R:World→World→Prop} {spec:Nat→GSpec}
theorem detUpon_same {w:World} {v u:Value} {r:Result Next} (h:detUpon w v r) (h':detUpon w u r):v=u:=by
 cases r with
 | ok n w' =>
  cases n <;> simp only [detUpon] at h h'
  ·exact h.2.symm.trans h'.2
  ·exact h.2.trans h'.2.symm
 | halt x w'=>simp only [detUpon] at h
theorem gOut_of_step {fs:Facts} {k:Nat} {o:Oper} {K:Facts→Act→Prop} {a:Act} {w:World} (hC:C w) (hd:depsHold ops k fs w) (h:gStep P ops C R spec fs k o K a):gOut P ops R spec fs k o K a w:=by
 unfold gStep at h
 unfold gOut
 split
 ·rename_i hw
  rw [if_pos hw] at h
  split
  ·rename_i hs
   rw [hs] at h
   obtain ⟨c,h1,h2⟩:=h
   exact ⟨c,h1 w hC,h2⟩
  ·rename_i c hs
   rw [hs] at h
   exact ⟨h.1 w hC hd,h.2⟩
  ·rename_i F hs
   rw [hs] at h
   exact ⟨h.1 w hC hd,h.2⟩
 ·rename_i hw
  rw [if_neg hw] at h
  exact h
theorem gPull {E:Facts→Act→Prop} (hsel:Region.noSelect ops=true) {j:Nat} {oj:Oper} (hj:ops[j]? = some oj) {is2:List Nat} {w:World} (hC:C w) :
  ∀ (is1:List Nat) (fs:Facts) (a:Act),(∀ i∈is1,i≠j∧waits ops j i=false∧waits ops i j=false∧∀ oi,ops[i]? = some oi→oi.apart ops oj=true) →
   depsHold ops j fs w→gWalk P ops C R spec E (is1 ++ j :: is2) fs a→gOut P ops R spec fs j oj (fun fs' a'=>gWalk P ops C R spec E (is1 ++ is2) fs' a') a w:=by
 intro is1
 induction is1 with
 | nil =>
  intro fs a _ hd h
  simp only [List.nil_append,gWalk,hj] at h ⊢
  exact gOut_of_step hC hd h
 | cons i is1 ih =>
  intro fs a hall hd h
  obtain ⟨hij,hji,hijw,hap⟩:=hall i (by simp)
  have hall':=fun k (hk:k∈is1)=>hall k (by simp [hk])
  simp only [List.cons_append,gWalk] at h ⊢
  cases hi:ops[i]? with
  | none =>
   simp only [hi] at h ⊢
   exact ih fs a hall' hd h
  | some oi =>
   simp only [hi] at h ⊢
   obtain ⟨h1,h2,h3⟩:=Oper.apart_spec (hap oi hi)
   have hsi:=fun cs b=>Region.noSelect_spec hsel i oi cs b hi
   have hsj:=fun cs b=>Region.noSelect_spec hsel j oj cs b hj
   have ei:∀ (a:Act) (v:Value),execOp (a.put oj.dst v).eval oi=execOp a.eval oi:=fun a v=>execOp_put (ops:=ops) oi hsi a oj.dst v h3
   have wi:∀ (a:Act) (v:Value),Region.wanted oi (yielded ops (a.put oj.dst v).tmps)=Region.wanted oi (yielded ops a.tmps):=fun a v=>wanted_put oi a oj.dst v h3
   have ej:∀ (a:Act) (v:Value),execOp (a.put oi.dst v).eval oj=execOp a.eval oj:=fun a v=>execOp_put (ops:=ops) oj hsj a oi.dst v h1
   have wj:∀ (a:Act) (v:Value),Region.wanted oj (yielded ops (a.put oi.dst v).tmps)=Region.wanted oj (yielded ops a.tmps):=fun a v=>wanted_put oj a oi.dst v h1
   have comm:∀ (a:Act) (u v:Value),(a.put oi.dst u).put oj.dst v=(a.put oj.dst v).put oi.dst u:=fun a u v=>Act.put_comm a u v h2
   have dkeep:∀ (fs:Facts) (f:World→Prop) (w:World),depsHold ops i (fs.upd j f) w→depsHold ops i fs w:=fun fs f w hh q hq=>by
    have:=hh q hq
    rwa [Facts.upd_ne _ (fun e=>by rw [e] at hijw; rw [hijw] at hq; cases hq)] at this
   have dj:∀ (f:World→Prop),depsHold ops j (fs.upd i f) w:=fun f q hq=>by
    rw [Facts.upd_ne _ (fun e=>by rw [e] at hji; rw [hji] at hq; cases hq)]
    exact hd q hq
   -- a step of i behind j
   have fold:∀ (fs:Facts) (v:Value),gStep P ops C R spec fs i oi (fun fs' a'=>gWalk P ops C R spec E (is1 ++ is2) fs' a') (a.put oj.dst v) =
     (if Region.wanted oi (yielded ops a.tmps)=true then
      match spec i with
      | .det=>∃ c,(∀ w,C w→detUpon w c ((execOp a.eval oi).run P w))∧gWalk P ops C R spec E (is1 ++ is2) fs ((a.put oi.dst c).put oj.dst v)
      | .con c=>(∀ w,C w→depsHold ops i fs w→growUpon P R (fun v _=>v=c) w ((execOp a.eval oi).run P w))∧gWalk P ops C R spec E (is1 ++ is2) fs ((a.put oi.dst c).put oj.dst v)
      | .any F=>(∀ w,C w→depsHold ops i fs w→growUpon P R F w ((execOp a.eval oi).run P w))∧∀ u,gWalk P ops C R spec E (is1 ++ is2) (fs.upd i (F u)) ((a.put oi.dst u).put oj.dst v)
     else gWalk P ops C R spec E (is1 ++ is2) fs ((a.put oi.dst undef).put oj.dst v)):=by
    intro fs v
    unfold gStep
    rw [wi]
    simp only [ei,comm]
   unfold gStep at h
   by_cases hwi:Region.wanted oi (yielded ops a.tmps)=true
   ·rw [if_pos hwi] at h
    simp only [gOut,fold,if_pos hwi]
    cases hs:spec i with
    | det =>
     simp only [hs] at h ⊢
     obtain ⟨c,hc,h⟩:=h
     have h:=ih fs _ hall' hd h
     unfold gOut at h
     rw [wj] at h
     simp only [ej] at h
     split
     ·rename_i hwj
      rw [if_pos hwj] at h
      cases hsj':spec j with
      | det =>
       simp only [hsj'] at h ⊢
       obtain ⟨c',g1,g2⟩:=h
       exact ⟨c',g1,c,hc,g2⟩
      | con c' =>
       simp only [hsj'] at h ⊢
       exact ⟨h.1,c,hc,h.2⟩
      | any F =>
       simp only [hsj'] at h ⊢
       exact ⟨h.1,fun v=>⟨c,hc,h.2 v⟩⟩
     ·rename_i hwj
      rw [if_neg hwj] at h
      exact ⟨c,hc,h⟩
    | con c =>
     simp only [hs] at h ⊢
     obtain ⟨hc,h⟩:=h
     have h:=ih fs _ hall' hd h
     unfold gOut at h
     rw [wj] at h
     simp only [ej] at h
     split
     ·rename_i hwj
      rw [if_pos hwj] at h
      cases hsj':spec j with
      | det =>
       simp only [hsj'] at h ⊢
       obtain ⟨c',g1,g2⟩:=h
       exact ⟨c',g1,hc,g2⟩
      | con c' =>
       simp only [hsj'] at h ⊢
       exact ⟨h.1,hc,h.2⟩
      | any F =>
       simp only [hsj'] at h ⊢
       exact ⟨h.1,fun v=>⟨fun w hw hd=>hc w hw (dkeep _ _ _ hd),h.2 v⟩⟩
     ·rename_i hwj
      rw [if_neg hwj] at h
      exact ⟨hc,h⟩
    | any F =>
     simp only [hs] at h ⊢
     obtain ⟨hc,h⟩:=h
     have h:=fun u=>ih (fs.upd i (F u)) _ hall' (dj _) (h u)
     simp only [gOut,wj,ej] at h
     split
     ·rename_i hwj
      simp only [if_pos hwj] at h
      cases hsj':spec j with
      | det =>
       simp only [hsj'] at h ⊢
       obtain ⟨c',g1,_⟩:=h undef
       refine ⟨c',g1,hc,fun u=>?_⟩
       obtain ⟨c2,k1,k2⟩:=h u
       rw [detUpon_same g1 k1]
       exact k2
      | con c' =>
       simp only [hsj'] at h ⊢
       exact ⟨(h undef).1,hc,fun u=>(h u).2⟩
      | any F' =>
       simp only [hsj'] at h ⊢
       refine ⟨(h undef).1,fun v=>⟨fun w hw hd=>hc w hw (dkeep _ _ _ hd),fun u=>?_⟩⟩
       have:=(h u).2 v
       rwa [Facts.upd_comm _ hij] at this
     ·rename_i hwj
      simp only [if_neg hwj] at h
      exact ⟨hc,h⟩
   ·rw [if_neg hwi] at h
    simp only [gOut,fold,if_neg hwi]
    have h:=ih fs _ hall' hd h
    unfold gOut at h
    rw [wj] at h
    simp only [ej] at h
    split
    ·rename_i hwj
     rw [if_pos hwj] at h
     exact h
    ·rename_i hwj
     rw [if_neg hwj] at h
     exact h
end
open Go.RowKit
def heads (n:Nat) (listed:Array Bool):List Nat:=(List.range n).filter fun i=>!listed.getD i true
theorem mem_heads {n i:Nat} {listed:Array Bool}:i∈heads n listed↔i < n∧listed.getD i true=false:=by
 unfold heads
 rw [List.mem_filter,List.mem_range]
 simp
theorem heads_sorted (n:Nat) (listed:Array Bool):(heads n listed).Pairwise (· < ·):=List.Pairwise.filter _ List.pairwise_lt_range
theorem heads_set {n j:Nat} {listed:Array Bool} {s t:List Nat} (hsz:j < listed.size) (h:heads n listed=s ++ j :: t):heads n (listed.setIfInBounds j true)=s ++ t:=by
 have hs:=heads_sorted n listed
 rw [h,List.pairwise_append] at hs
 obtain ⟨h1,h2,h3⟩:=hs
 rw [List.pairwise_cons] at h2
 have e:heads n (listed.setIfInBounds j true)=(heads n listed).filter fun i=>decide (i≠j):=by
  unfold heads
  rw [List.filter_filter]
  refine List.filter_congr fun i _=>?_
  by_cases hij:i=j
  ·subst hij
   have:(listed.setIfInBounds i true).getD i true=true:=by simp [hsz]
   rw [this]
   simp
  ·rw [getD_set_ne true (fun e=>hij e.symm)]
   simp [hij]
 rw [e,h,List.filter_append,List.filter_cons]
 have e1:s.filter (fun i=>decide (i≠j))=s:=List.filter_eq_self.2 fun i hi=>by
  have:=h3 i hi j (by simp)
  simp
  omega
 have e2:t.filter (fun i=>decide (i≠j))=t:=List.filter_eq_self.2 fun i hi=>by
  have:=h2.1 i hi
  simp
  omega
 rw [e1,e2]
 simp
theorem getD_both' {listed:Array Bool} {i:Nat} (h:listed.getD i true=true) (hi:i < listed.size):listed.getD i false=true:=by
 simp [hi] at h ⊢
 exact h
def topoB (ops:Array Oper):Bool:=(List.range ops.size).all fun k=>match ops[k]? with
 | some o=>o.after.all fun e=>!Region.binds .any e || decide (e.on < k)
 | none=>true
theorem topo_spec {ops:Array Oper} (h:topoB ops=true) {k:Nat} {o:Oper} (hk:ops[k]? = some o):∀ e∈o.after,Region.binds .any e=true→e.on < k:=by
 intro e he hb
 have hlt:k < ops.size:=(Array.getElem?_eq_some_iff.1 hk).1
 have h1:=List.all_eq_true.1 h k (List.mem_range.2 hlt)
 simp only [hk] at h1
 have h2:=Array.all_eq_true'.1 h1 e he
 simp only [hb,Bool.not_true,Bool.false_or,decide_eq_true_eq] at h2
 exact h2
def apartB (ops:Array Oper) (n:Nat):Bool:=(List.range n).all fun j=>(List.range j).all fun i=>waits ops j i || match ops[i]?,ops[j]? with
 | some oi,some oj=>oi.apart ops oj
 | _,_=>true
theorem apart_of {ops:Array Oper} {n:Nat} (h:apartB ops n=true) {i j:Nat} (hij:i < j) (hj:j < n) (hw:waits ops j i=false) {oi oj:Oper} (hi:ops[i]? = some oi) (ho:ops[j]? = some oj):oi.apart ops oj=true:=by
 have h1:=List.all_eq_true.1 (List.all_eq_true.1 h j (List.mem_range.2 hj)) i (List.mem_range.2 hij)
 simpa [hw,hi,ho] using h1
section
variable {P:Program} {ops:Array Oper} {C:World→Prop} {R:World→World→Prop} {spec:Nat→GSpec} {Q:Exit→Act→World→Prop}
theorem waits_listed {listed:Array Bool} {j i:Nat} (hj:j∈Region.ready .any ops listed) (hi:listed.getD i true=false):waits ops j i=false:=by
 cases hw:waits ops j i
 ·rfl
 ·obtain ⟨oj,hoj,e,he,hb,hon⟩:=Region.waitsFor_spec hw
  obtain ⟨_,o,ho,hall⟩:=mem_ready.1 hj
  have:o=oj:=Option.some.inj (ho.symm.trans hoj)
  subst this
  have h2:=hall e he hb
  rw [hon,getD_both hi] at h2
  cases h2
theorem gAny {n g:Nat} {E:Facts→Act→Prop} (hn:n≤ops.size) (hsel:Region.noSelect ops=true) (htopo:topoB ops=true) (hap:apartB ops n=true)
  (hCR:∀ w w',C w→R w w'→C w') (hstab:∀ k F,spec k=.any F→∀ v w w',F v w→R w w'→F v w')
  (hend:∀ listed fs a w,HeadInv .any ops n listed→heads n listed=[]→C w→(∀ j,fs j w)→E fs a→wpAny P .any ops Q g listed a w)
  (hsink:∀ listed,HeadInv .any ops n listed→heads n listed≠[]→∀ t∈Region.ready .any ops listed,t < n) :
  ∀ (m:Nat) (listed:Array Bool) (fs:Facts) (a:Act) (w:World),HeadInv .any ops n listed→(heads n listed).length=m→gWalk P ops C R spec E (heads n listed) fs a →
   C w→(∀ j,fs j w)→(∀ j w w',fs j w→R w w'→fs j w')→wpAny P .any ops Q (m + g) listed a w:=by
 intro m
 induction m with
 | zero =>
  intro listed fs a w inv hl h hC hfs _
  have hnil:heads n listed=[]:=List.length_eq_zero_iff.1 hl
  rw [hnil] at h
  rw [Nat.zero_add]
  exact hend listed fs a w inv hnil hC hfs h
 | succ m ih =>
  intro listed fs a w inv hl h hC hfs hst
  rw [show m + 1 + g=(m + g) + 1 by omega]
  have hne:heads n listed≠[]:=by intro e; rw [e] at hl; simp at hl
  refine ⟨fun h0=>?_,fun j hj=>?_⟩
  ·exfalso
   obtain ⟨k,t,hkt⟩:∃ k t,heads n listed=k :: t:=by
    cases hh:heads n listed with
    | nil=>exact absurd hh hne
    | cons k t=>exact ⟨k,t,rfl⟩
   have hk:=mem_heads.1 (show k∈heads n listed by rw [hkt]; simp)
   have hks:k < ops.size:=by omega
   have hmem:k∈Region.ready .any ops listed:=by
    refine mem_ready.2 ⟨hk.2,_,Array.getElem?_eq_getElem hks,fun e he hb=>?_⟩
    have hlt:=topo_spec htopo (Array.getElem?_eq_getElem hks) e he hb
    cases hl':listed.getD e.on true with
    | true=>exact getD_both' hl' (by rw [inv.size]; omega)
    | false =>
     have hin:e.on∈heads n listed:=mem_heads.2 ⟨by omega,hl'⟩
     have hs:=heads_sorted n listed
     rw [hkt] at hs hin
     rw [List.pairwise_cons] at hs
     simp only [List.mem_cons] at hin
     rcases hin with e1 | e1
     ·omega
     ·have:=hs.1 _ e1
      omega
   rw [h0] at hmem
   cases hmem
  ·have hjn:=hsink listed inv hne j hj
   have hjl:=(mem_ready.1 hj).1
   obtain ⟨s,t,hst'⟩:=List.append_of_mem (mem_heads.2 ⟨hjn,hjl⟩)
   obtain ⟨_,oj,hoj,_⟩:=mem_ready.1 hj
   have hsorted:=heads_sorted n listed
   rw [hst',List.pairwise_append] at hsorted
   have hlt:∀ i∈s,i < j:=fun i hi=>hsorted.2.2 i hi j (by simp)
   have hall:∀ i∈s,i≠j∧waits ops j i=false∧waits ops i j=false∧∀ oi,ops[i]? = some oi→oi.apart ops oj=true:=by
    intro i hi
    have hij:=hlt i hi
    have hil:=(mem_heads.1 (show i∈heads n listed by rw [hst']; simp [hi])).2
    have hw:=waits_listed hj hil
    refine ⟨by omega,hw,?_,fun oi hoi=>apart_of hap hij hjn hw hoi hoj⟩
    cases hw':waits ops i j
    ·rfl
    ·obtain ⟨oi,hoi,e,he,hb,hon⟩:=Region.waitsFor_spec hw'
     have:=topo_spec htopo hoi e he hb
     omega
   rw [hst'] at h
   have hdeps:depsHold ops j fs w:=fun q _=>hfs q
   have hout:=gPull hsel hoj hC s fs a hall hdeps h
   have hjs:j < listed.size:=by rw [inv.size]; omega
   have hset:=heads_set hjs hst'
   have inv':=inv.set hj hjn
   have hlen:(s ++ t).length=m:=by
    rw [hst'] at hl
    simp at hl ⊢
    omega
   have go:∀ (fs':Facts) (a':Act) (w':World),gWalk P ops C R spec E (s ++ t) fs' a'→C w'→(∀ j,fs' j w')→(∀ j w w',fs' j w→R w w'→fs' j w') →
     wpAny P .any ops Q (m + g) (listed.setIfInBounds j true) a' w':=fun fs' a' w' h1 h2 h3 h4 =>
    ih _ fs' a' w' inv' (by rw [hset]; exact hlen) (by rw [hset]; exact h1) h2 h3 h4
   have keep:∀ w',R w w'→∀ q,fs q w':=fun w' hR q=>hst q w w' (hfs q) hR
   unfold wpOp
   simp only [hoj]
   unfold gOut at hout
   split
   ·rename_i hw
    rw [if_pos hw] at hout
    left
    unfold Oper.wp
    generalize (execOp a.eval oj).run P w=r at hout ⊢
    cases hs:spec j with
    | det =>
     simp only [hs] at hout
     obtain ⟨c,h1,h2⟩:=hout
     cases r with
     | ok nx w' =>
      cases nx <;> simp only [detUpon] at h1
      ·obtain ⟨e1,e2⟩:=h1
       subst e1 e2
       exact go fs _ w' h2 hC hfs hst
      ·obtain ⟨e1,e2⟩:=h1
       subst e1 e2
       exact go fs _ w' h2 hC hfs hst
     | halt x w'=>simp only [detUpon] at h1
    | con c =>
     simp only [hs] at hout
     obtain ⟨h1,h2⟩:=hout
     cases r with
     | ok nx w' =>
      cases nx <;> simp only [growUpon] at h1
      case value u =>
       obtain ⟨hR,e⟩:=h1
       subst e
       exact go fs _ w' h2 (hCR _ _ hC hR) (keep w' hR) hst
      case skip =>
       obtain ⟨hR,e⟩:=h1
       subst e
       exact go fs _ w' h2 (hCR _ _ hC hR) (keep w' hR) hst
      case enter f args =>
       refine Calls.mono h1 fun e w'' he=>?_
       obtain ⟨v,rfl,hR,e⟩:=he
       subst e
       exact go fs _ w'' h2 (hCR _ _ hC hR) (keep w'' hR) hst
     | halt x w'=>simp only [growUpon] at h1
    | any F =>
     simp only [hs] at hout
     obtain ⟨h1,h2⟩:=hout
     have upd:∀ v w',R w w'→F v w'→(∀ q,(fs.upd j (F v)) q w'):=fun v w' hR hF q=>by
      by_cases hq:q=j
      ·subst hq
       rw [Facts.upd_self]
       exact hF
      ·rw [Facts.upd_ne _ (fun e=>hq e.symm)]
       exact keep w' hR q
     have updS:∀ v,∀ q w w',(fs.upd j (F v)) q w→R w w'→(fs.upd j (F v)) q w':=fun v q w w' h3 hR=>by
      by_cases hq:q=j
      ·subst hq
       rw [Facts.upd_self] at *
       exact hstab _ F hs v w w' h3 hR
      ·rw [Facts.upd_ne _ (fun e=>hq e.symm)] at *
       exact hst q w w' h3 hR
     cases r with
     | ok nx w' =>
      cases nx <;> simp only [growUpon] at h1
      case value u =>
       exact go _ _ w' (h2 u) (hCR _ _ hC h1.1) (upd u w' h1.1 h1.2) (updS u)
      case skip =>
       exact go _ _ w' (h2 undef) (hCR _ _ hC h1.1) (upd undef w' h1.1 h1.2) (updS undef)
      case enter f args =>
       refine Calls.mono h1 fun e w'' he=>?_
       obtain ⟨v,rfl,hR,hF⟩:=he
       exact go _ _ w'' (h2 v) (hCR _ _ hC hR) (upd v w'' hR hF) (updS v)
     | halt x w'=>simp only [growUpon] at h1
   ·rename_i hw
    rw [if_neg hw] at hout
    exact go fs _ w hout hC hfs hst
theorem gList_walk {E:Facts→Act→Prop} {n:Nat}:∀ (l:List Oper) (k:Nat) (fs:Facts) (a:Act),(∀ j,j < l.length→l[j]? = ops[k + j]?) →
  gList P ops C R spec E k l fs a→gWalk P ops C R spec E (List.range' k l.length) fs a
 | [],_,_,_,_,h=>h
 | o :: l,k,fs,a,hl,h=>by
  have h0:ops[k]? = some o:=by simpa using (hl 0 (by simp)).symm
  simp only [List.length_cons,List.range'_succ,gWalk,h0]
  unfold gList at h
  have mono:∀ (K K':Facts→Act→Prop),(∀ fs a,K fs a→K' fs a)→gStep P ops C R spec fs k o K a→gStep P ops C R spec fs k o K' a:=by
   intro K K' hK hg
   unfold gStep at *
   split
   ·rename_i hw
    rw [if_pos hw] at hg
    split
    ·rename_i hs
     rw [hs] at hg
     obtain ⟨c,h1,h2⟩:=hg
     exact ⟨c,h1,hK _ _ h2⟩
    ·rename_i c hs
     rw [hs] at hg
     exact ⟨hg.1,hK _ _ hg.2⟩
    ·rename_i F hs
     rw [hs] at hg
     exact ⟨hg.1,fun v=>hK _ _ (hg.2 v)⟩
   ·rename_i hw
    rw [if_neg hw] at hg
    exact hK _ _ hg
  refine mono _ _ (fun fs' a' h'=>gList_walk (n:=n) l (k + 1) fs' a' (fun j hj=>?_) h') h
  have:=hl (j + 1) (by simp; omega)
  simpa [Nat.add_assoc,Nat.add_comm 1 j] using this
end
open Go.RowKit
def Grows (w w':World):Prop:=Below w.heap.size w w'
def Onward (W:World) (w':World):Prop:=∃ x:Later W,w'=x.val
theorem Onward.mk' {W w':World} (h:Below W.heap.size W w'):Onward W w':=⟨⟨w',h⟩,rfl⟩
theorem Onward.below {W w':World} (h:Onward W w'):Below W.heap.size W w':=by
 obtain ⟨x,rfl⟩:=h
 exact x.below
theorem onward_step {W:World}:∀ w w',Onward W w→Grows w w'→Onward W w':=fun _ _ h h'=>Onward.mk' (h.below.trans (Below.mono h' h.below.size))
def growTailB (ops:Array Oper) (n:Nat):Bool:=Region.noSelect ops && topoB ops && apartB ops n && decide (n + 1=ops.size) && Region.sinkB .any ops n && Region.chainB .any ops n
theorem heads_all (n m:Nat) (h:n≤m):heads n (Array.replicate m false)=List.range' 0 n:=by
 unfold heads
 rw [List.range_eq_range',List.filter_eq_self]
 intro i hi
 have:=List.mem_range'_1.1 hi
 simp [show i < m by omega]
theorem inv_start (ops:Array Oper) (n:Nat):HeadInv .any ops n (Array.replicate ops.size false) :=
 ⟨by simp,fun j oj _ hl=>(by rw [getD_replicate_false] at hl; cases hl),fun t _ ht=>getD_in (by simpa using ht) (getD_replicate_false _ _)⟩
section
variable {P:Program} {spec:Nat→GSpec} {Q:Exit→Act→World→Prop} {a:Act} {w W:World} {id:Nat} {l:List Oper}
theorem wp_grow_tail (n:Nat) (hm:P.follows .mixedOrders=true) (hB:growTailB l.toArray n=true) (hW:Onward W w.drew) (hstab:∀ k F,spec k=.any F→∀ v w w',F v w→Grows w w'→F v w')
  (h:gList P l.toArray (Onward W) Grows spec (fun fs a'=>∀ w',Onward W w'→(∀ j,fs j w')→wpList P l.toArray Q (l.drop n) a' w') 0 (l.take n) Facts.none a):(Code.region id l.toArray true).wp P Q a w:=by
 simp only [growTailB,Bool.and_eq_true,decide_eq_true_eq] at hB
 obtain ⟨⟨⟨⟨⟨hsel,htopo⟩,hap⟩,hn⟩,hsink⟩,hchain⟩:=hB
 refine wp_region_any hm ?_
 have hnl:n < l.length:=by simp at hn; omega
 have hns:n < l.toArray.size:=by omega
 have htl:(l.take n).length=n:=by simp; omega
 have h2:=gList_walk (n:=0) (l.take n) 0 Facts.none a (fun j hj=>by
  rw [htl] at hj
  simp [hj]) h
 rw [htl] at h2
 have H:=gAny (P:=P) (g:=1) (Q:=Q) (n:=n) (by omega) hsel htopo hap onward_step hstab (E:=fun fs a'=>∀ w',Onward W w'→(∀ j,fs j w')→wpList P l.toArray Q (l.drop n) a' w')
  (fun listed fs a' w' inv hnil hC hfs hE=>by
   have hT:=hE w' hC hfs
   obtain ⟨t,ht⟩:∃ t,l[n]? = some t:=⟨_,List.getElem?_eq_getElem hnl⟩
   have hd:l.drop n=[t]:=by
    rw [List.drop_eq_getElem_cons hnl]
    have e1:l[n]=t:=by rw [List.getElem?_eq_getElem hnl] at ht; injection ht
    have e2:l.drop (n + 1)=[]:=List.drop_eq_nil_of_le (by simp at hn; omega)
    rw [e1,e2]
   rw [hd] at hT
   have hall:∀ i,i < n→listed.getD i true=true:=fun i hi=>by
    cases hh:listed.getD i true with
    | true=>rfl
    | false =>
     have:=mem_heads.2 ⟨hi,hh⟩
     rw [hnil] at this
     cases this
   have hnr:n∈Region.ready .any l.toArray listed:=by
    refine mem_ready.2 ⟨inv.tail n (Nat.le_refl _) hns,t,by simpa using ht,fun e he hb=>?_⟩
    have hlt:=topo_spec htopo (show l.toArray[n]? = some t by simpa using ht) e he hb
    exact getD_both' (hall _ hlt) (by rw [inv.size]; omega)
   refine ⟨fun h0=>(by rw [h0] at hnr; cases hnr),fun i hi=>?_⟩
   have hin:i=n:=by
    obtain ⟨hu,o,ho,_⟩:=mem_ready.1 hi
    have hilt:i < l.toArray.size:=(Array.getElem?_eq_some_iff.1 ho).1
    rcases Nat.lt_or_ge i n with h | h
    ·rw [hall i h] at hu
     cases hu
    ·omega
   subst hin
   have hfin:∀ a'' w'',Q .normal a'' w''→wpAny P .any l.toArray Q 0 (listed.setIfInBounds i true) a'' w'':=by
    intro a'' w'' hq
    refine ⟨?_,hq⟩
    cases hr:Region.ready .any l.toArray (listed.setIfInBounds i true) with
    | nil=>rfl
    | cons q qs =>
     exfalso
     have hq':=(mem_ready.1 (show q∈Region.ready .any l.toArray (listed.setIfInBounds i true) by rw [hr]; simp))
     obtain ⟨hu,o,ho,_⟩:=hq'
     have hqlt:q < l.toArray.size:=(Array.getElem?_eq_some_iff.1 ho).1
     by_cases hqi:q=i
     ·subst hqi
      have:q < listed.size:=by rw [inv.size]; exact hns
      simp [this] at hu
     ·rw [getD_set_ne true (fun e=>hqi e.symm),hall q (by omega)] at hu
      cases hu
   unfold wpOp
   have ho:l.toArray[i]? = some t:=by simpa using ht
   simp only [ho]
   unfold wpList at hT
   split
   ·rename_i hw
    rw [if_pos hw] at hT
    exact hT.imp (Oper.wp_mono fun a'' w'' hq=>hfin a'' w'' hq) (fun h=>h)
   ·rename_i hw
    rw [if_neg hw] at hT
    exact hfin _ _ hT)
  (fun listed inv hne t ht=>by
   rcases Nat.lt_or_ge t n with h | h
   ·exact h
   ·exfalso
    obtain ⟨i,hi⟩:∃ i,i∈heads n listed:=by
     cases hh:heads n listed with
     | nil=>exact absurd hh hne
     | cons k ks=>exact ⟨k,by simp⟩
    have hi':=mem_heads.1 hi
    exact tail_waits hsink hchain hns inv (n - i) i rfl hi'.1 hi'.2 t h ht)
  n (Array.replicate l.toArray.size false) Facts.none a w.drew (inv_start _ _) (by rw [heads_all _ _ (by omega)]; simp) (by rw [heads_all _ _ (by omega)]; exact h2) hW (fun _=>trivial) (fun _ _ _ _ _=>trivial)
 rw [hn] at H
 exact H
end
open Go.RowKit
def plainOp:Op→Bool
 | .move _ | .assign _ | .pick .. | .load .. | .fieldAddr .. | .indexAddr .. | .binOp .. | .unOp .. | .convert .. | .build .. | .extract .. | .slice .. | .index .. | .field ..=>true
 | _=>false
theorem plain_noEnter {P:Program} {ρ:Operand→Value} {o:Oper} (h:plainOp o.op=true) (w:World) (f:FuncId) (args:Array Value) (w':World):(execOp ρ o).run P w≠.ok (.enter f args) w':=by
 have key:∀ {α:Type} (s:Sem α) (g:α→Value),(do pure (Next.value (g (←s))):Sem Next).run P w≠.ok (.enter f args) w':=fun s g=>by
  simp only [Sem.run_bind,Sem.run_pure]
  cases s.run P w with
  | ok v w1=>simp [Result.andThen]
  | halt x w1=>simp [Result.andThen]
 obtain ⟨dst,op,type,pos,after,guard⟩:=o
 cases op <;> simp only [plainOp,Bool.false_eq_true] at h <;> simp only [execOp]
 case move x=>simp
 case assign x=>simp
 case pick c x y=>exact key (asBool (ρ c)) fun b=>if b then ρ x else ρ y
 all_goals exact key _ id
theorem det_of_quiet {P:Program} {C:World→Prop} {w:World} {v:Value} {r:Result Next} (h:Oper.quietUpon P C w v r) (hn:∀ f args w',r≠.ok (.enter f args) w'):detUpon w v r:=by
 cases r with
 | ok n w' =>
  cases n <;> simp only [Oper.quietUpon] at h
  ·exact h
  ·exact h
  ·exact absurd rfl (hn _ _ _)
 | halt x w'=>simp only [Oper.quietUpon] at h
def detsFrom (spec:Nat→GSpec):Nat→List Oper→Prop
 | _,[]=>True
 | k,o :: l=>spec k=.det∧plainOp o.op=true∧detsFrom spec (k + 1) l
section
variable {P:Program} {ops:Array Oper} {C:World→Prop} {R:World→World→Prop} {spec:Nat→GSpec} {E:Facts→Act→Prop}
theorem gList_quiet:∀ (l1:List Oper) {l2:List Oper} {k:Nat} {fs:Facts} {a:Act},detsFrom spec k l1 →
  wpQuiet P ops C (fun a'=>gList P ops C R spec E (k + l1.length) l2 fs a') l1 a→gList P ops C R spec E k (l1 ++ l2) fs a
 | [],l2,k,fs,a,_,h=>by simpa [wpQuiet] using h
 | o :: l1,l2,k,fs,a,hd,h=>by
  obtain ⟨hs,hp,hd'⟩:=hd
  simp only [List.cons_append,gList,gStep,hs]
  unfold wpQuiet at h
  have e:∀ x:Act→Prop,(k + (o :: l1).length)=(k + 1) + l1.length:=fun _=>by simp; omega
  rw [e (fun _=>True)] at h
  split
  ·rename_i hw
   rw [if_pos hw] at h
   obtain ⟨c,h1,h2⟩:=h
   exact ⟨c,fun w hC=>det_of_quiet (h1 w hC) (plain_noEnter hp w),gList_quiet l1 hd' h2⟩
  ·rename_i hw
   rw [if_neg hw] at h
   exact gList_quiet l1 hd' h
theorem gList_any {k:Nat} {o:Oper} {l:List Oper} {fs:Facts} {a:Act} (F:Value→World→Prop) (hs:spec k=.any F) (hg:o.guard=none)
  (h1:∀ w,C w→depsHold ops k fs w→growUpon P R F w ((execOp a.eval o).run P w)) (h2:∀ v,gList P ops C R spec E (k + 1) l (fs.upd k (F v)) (a.put o.dst v)):gList P ops C R spec E k (o :: l) fs a:=by
 have hw:Region.wanted o (yielded ops a.tmps)=true:=by simp [Region.wanted,hg]
 simp only [gList,gStep,hs,if_pos hw]
 exact ⟨h1,h2⟩
theorem gList_con {k:Nat} {o:Oper} {l:List Oper} {fs:Facts} {a:Act} (c:Value) (hs:spec k=.con c) (hg:o.guard=none)
  (h1:∀ w,C w→depsHold ops k fs w→growUpon P R (fun v _=>v=c) w ((execOp a.eval o).run P w)) (h2:gList P ops C R spec E (k + 1) l fs (a.put o.dst c)):gList P ops C R spec E k (o :: l) fs a:=by
 have hw:Region.wanted o (yielded ops a.tmps)=true:=by simp [Region.wanted,hg]
 simp only [gList,gStep,hs,if_pos hw]
 exact ⟨h1,h2⟩
theorem grow_call {f:FuncId} {args:Array Value} {w:World} {F:Value→World→Prop} {o:Oper} {a:Act} (hr:(execOp a.eval o).run P w=.ok (.enter f args) w)
  (h:Calls P f args w fun e w''=>∃ v,e=.returned v∧R w w''∧F v w''):growUpon P R F w ((execOp a.eval o).run P w):=by
 rw [hr]
 exact h
end
def RowOf (base e size n:Nat) (xs:List Value) (v:Value) (w:World):Prop:=∃ A c,v=.slice A n c∧w.ownsRow base e size (.slice A n c) n xs
theorem RowOf.stable {base e size n:Nat} {xs:List Value}:∀ v w w',RowOf base e size n xs v w→Grows w w'→RowOf base e size n xs v w':=by
 rintro v w w' ⟨A,c,rfl,h⟩ hg
 exact ⟨A,c,rfl,own_below h hg⟩
def LitOf (base e size:Nat) (v:Value) (w:World):Prop:=∃ g,v=.slice (some ⟨g,0,none⟩) 0 0∧w.ownsRow base e size (.slice (some ⟨g,0,none⟩) 0 0) 0 []
theorem LitOf.stable {base e size:Nat}:∀ v w w',LitOf base e size v w→Grows w w'→LitOf base e size v w':=by
 rintro v w w' ⟨g,rfl,h⟩ hg
 exact ⟨g,rfl,own_below h hg⟩
theorem lit_made {w:World} {base e size:Nat} (hb:base≤w.heap.size):LitOf base e size (.slice (some ⟨w.heap.size,0,none⟩) 0 0) (w.alloc (.cells #[] e)) :=
 ⟨w.heap.size,rfl,own_lit #[] 0 rfl hb (Nat.zero_le _) (by simp)⟩
theorem run_copy {P:Program} {w:World} {base t ty e:Nat} {z:Value} {size bytes:Nat} (ht:P.underlying t=some (.slice e)) (hinfo:(P.info? e).map (fun i=>(i.zero,i.size,i.bytes))=some (some z,size,bytes))
  (hzs:z.cells.size=size) (hsz:0 < size) {s:Value} (hs:LitOf base e size s w) {A:Option Addr} {n c B:Nat} {xs:List Value} (hl:xs.length=n * size) (hc:Cells w B A xs) (hnil:A=none→c=0)
  (h1:∀ u∈xs,u.oneCell'=true) (hn:n≤1000000000) (hbytes:bytes≤1000) (hbase:base≤w.heap.size) :
  ∃ v w',(Builtin.append_ #[t,t] ty #[s,.slice A n c]).run P w=.ok v w'∧Grows w w'∧RowOf base e size n xs v w':=by
 obtain ⟨i,hi,hz0,hz1,hz2⟩:=info_parts hinfo
 obtain ⟨g,rfl,hown⟩:=hs
 by_cases h0:n=0
 ·subst h0
  have hxs:xs=[]:=List.length_eq_zero_iff.1 (by omega)
  subst hxs
  refine ⟨.slice (some ⟨g,0,none⟩) 0 0,w,?_,Below.refl _ _,⟨_,_,rfl,hown⟩⟩
  cases A with
  | none =>
   have:=hnil rfl
   subst this
   simp [Builtin.append_,run_underlying ht,sizeOf,typeInfo,hi,Builtin.lenOf,Builtin.firstCells,storeCells]
  | some a =>
   have hf:=run_firstCells_some (P:=P) w i.size 0 a 0 c [] (by simp) (by simp)
   simp [Builtin.append_,run_underlying ht,sizeOf,typeInfo,hi,Builtin.lenOf,hf,storeCells]
 ·have hx0:0 < xs.length:=by rw [hl]; exact Nat.mul_pos (by omega) hsz
  obtain ⟨b,off,rfl,hb,hcl⟩:=hc hx0
  have hmul:(0 + n) * bytes≤1000000000 * 1000:=Nat.mul_le_mul (by omega) hbytes
  have hcl':∀ j u,xs[j]? = some u→w.cell? ((⟨b,off,none⟩:Addr).add j)=some u:=fun j u hu=>by
   have e:(⟨b,off,none⟩:Addr).add j=⟨b,off + j,none⟩:=by simp [Addr.add]
   rw [e]
   exact hcl j u hu
  obtain ⟨v',w',hr,ho,_,_⟩:=run_append_own (P:=P) w base t ty e i z size bytes ht hi hz0 hz1 hz2 hzs hsz _ 0 [] hown ⟨b,off,none⟩ n c xs hl hcl' h1 (by unfold maxLen; omega) (by omega) hbase
  have hg:=run_append_grow (P:=P) (w:=w) t ty e i z ht hi hz0 ⟨g,0,none⟩ 0 0 [] (by simp) (by simp) ⟨b,off,none⟩ n c xs (by rw [hz1]; exact hl) hcl' (by omega) (by omega) (growslice_fits (by omega) (by rw [hz2]; omega))
  rw [hr] at hg
  injection hg with e1 e2
  refine ⟨v',w',hr,?_,?_⟩
  ·rw [e2]
   exact (Below.refl _ _).drew.alloc (Nat.le_refl _) _
  ·obtain ⟨A',c',rfl⟩:=own_shape ho
   rw [Nat.zero_add,List.nil_append] at ho
   rw [Nat.zero_add]
   exact ⟨A',c',rfl,ho⟩
open Go.RowKit
def specOf (l:List (Nat × (Value→World→Prop))) (k:Nat):GSpec:=match l.lookup k with
 | some F=>.any F
 | none=>.det
theorem specOf_stab:∀ {l:List (Nat × (Value→World→Prop))},(∀ p∈l,∀ v w w',p.2 v w→Grows w w'→p.2 v w')→∀ k F,specOf l k=.any F→∀ v w w',F v w→Grows w w'→F v w':=by
 intro l h k F hk
 unfold specOf at hk
 split at hk
 ·rename_i G hG
  cases hk
  have:∀ (l:List (Nat × (Value→World→Prop))),l.lookup k=some F→∃ p∈l,p.2=F:=by
   intro l
   induction l with
   | nil=>intro h; cases h
   | cons p l ih =>
    intro h
    obtain ⟨a,b⟩:=p
    rw [List.lookup_cons] at h
    split at h
    ·cases h
     exact ⟨_,List.mem_cons_self,rfl⟩
    ·obtain ⟨p,hp,e⟩:=ih h
     exact ⟨p,List.mem_cons_of_mem _ hp,e⟩
  obtain ⟨p,hp,rfl⟩:=this l hG
  exact h p hp
 ·cases hk
theorem gList_quietN {P:Program} {ops:Array Oper} {C:World→Prop} {R:World→World→Prop} {spec:Nat→GSpec} {E:Facts→Act→Prop} (m:Nat) {l:List Oper} {k:Nat} {fs:Facts} {a:Act} (hd:detsFrom spec k (l.take m)) (hm:m≤l.length)
  (h:wpQuiet P ops C (fun a'=>gList P ops C R spec E (k + m) (l.drop m) fs a') (l.take m) a):gList P ops C R spec E k l fs a:=by
 have h1:=gList_quiet (l.take m) (l2:=l.drop m) hd (E:=E) (R:=R) (fs:=fs) (a:=a) (P:=P) (ops:=ops) (C:=C) (by rw [List.length_take,Nat.min_eq_left hm]; exact h)
 rwa [List.take_append_drop] at h1
set_option maxHeartbeats 3200000 in
theorem grow_lit {P:Program} {t e base size:Nat} {w:World} {o:Oper} {a:Act} (ho:o.op=Op.buildSlice t 0 #[]) (hr:∀ w:World,(Instr.buildSlice t 0 #[]).run P w=.ok (.slice (some ⟨w.heap.size,0,none⟩) 0 0) (w.alloc (.cells #[] e)))
  (hb:base≤w.heap.size):growUpon P Grows (LitOf base e size) w ((execOp a.eval o).run P w):=by
 simp [execOp,ho,growUpon,hr,Result.andThen]
 exact ⟨(Below.refl _ _).alloc (Nat.le_refl _) _,lit_made hb⟩
theorem grow_copy {P:Program} {w:World} {base t e:Nat} {z:Value} {size bytes:Nat} (ht:P.underlying t=some (.slice e)) (hinfo:(P.info? e).map (fun i=>(i.zero,i.size,i.bytes))=some (some z,size,bytes))
  (hzs:z.cells.size=size) (hsz:0 < size) {o:Oper} {a:Act} {x y:Operand} {s:Value} {A:Option Addr} {n c B:Nat} {xs:List Value} (ho:o.op=.call { callee:=.builtin .append,args:=#[x,y],argTypes:=#[t,t] }) (hx:a.eval x=s) (hy:a.eval y=.slice A n c)
  (hs:LitOf base e size s w) (hl:xs.length=n * size) (hc:Cells w B A xs) (hnil:A=none→c=0) (h1:∀ u∈xs,u.oneCell'=true) (hn:n≤1000000000) (hbytes:bytes≤1000) (hbase:base≤w.heap.size) :
  growUpon P Grows (RowOf base e size n xs) w ((execOp a.eval o).run P w):=by
 obtain ⟨v,w',hr,hg,hrow⟩:=run_copy (P:=P) (w:=w) (ty:=o.type) ht hinfo hzs hsz hs hl hc hnil h1 hn hbytes hbase
 have e:(execOp a.eval o).run P w=.ok (.value v) w':=by
  unfold execOp
  simp only [ho,resolve,invoke,builtin,Sem.run_bind,Sem.run_pure,Result.andThen_ok,List.map_toArray,List.map_cons,List.map_nil,hx,hy,hr]
 rw [e]
 exact ⟨hg,hrow⟩
theorem own_nil {w:World} {base e size n c:Nat} {A:Option Addr} {xs:List Value} (h:w.ownsRow base e size (.slice A n c) n xs):A=none→c=0:=by
 rcases h.2 with ⟨hv,rfl⟩ | ⟨g,cap,cur,hv,_⟩
 ·cases hv
  exact fun _=>rfl
 ·cases hv
  exact fun h=>by cases h
theorem wpList_copy {P:Program} {w:World} {base t e:Nat} {z:Value} {size bytes:Nat} (ht:P.underlying t=some (.slice e)) (hinfo:(P.info? e).map (fun i=>(i.zero,i.size,i.bytes))=some (some z,size,bytes))
  (hzs:z.cells.size=size) (hsz:0 < size) {ops:Array Oper} {rest:List Oper} {Q:Exit→Act→World→Prop} {o:Oper} {a:Act} (hgd:o.guard=none) {x y:Operand} {s:Value} {A:Option Addr} {n c B:Nat} {xs:List Value}
  (ho:o.op=.call { callee:=.builtin .append,args:=#[x,y],argTypes:=#[t,t] }) (hx:a.eval x=s) (hy:a.eval y=.slice A n c)
  (hs:LitOf base e size s w) (hl:xs.length=n * size) (hc:Cells w B A xs) (hnil:A=none→c=0) (h1:∀ u∈xs,u.oneCell'=true) (hn:n≤1000000000) (hbytes:bytes≤1000) (hbase:base≤w.heap.size)
  (h:∀ A' c' w',w'.ownsRow base e size (.slice A' n c') n xs→Below w.heap.size w w'→wpList P ops Q rest (a.put o.dst (.slice A' n c')) w'):wpList P ops Q (o :: rest) a w:=by
 refine wpList_plain hgd fun K hK=>?_
 obtain ⟨v,w',hr,hg,A',c',rfl,hrow⟩:=run_copy (P:=P) (w:=w) (ty:=o.type) ht hinfo hzs hsz hs hl hc hnil h1 hn hbytes hbase
 unfold Oper.wp execOp
 simp only [ho,resolve,invoke,builtin,Sem.run_bind,Sem.run_pure,Result.andThen_ok,List.map_toArray,List.map_cons,List.map_nil,hx,hy,hr]
 exact hK _ _ (h A' c' w' hrow hg)
theorem iIntsO (A:Option Addr) (c n:Nat) (xs:List Int) (w:World) (h:w.ownsRow 0 3 1 (.slice A n c) n (ints xs)) (hn:n≤1000000000) :
  Calls Tryz.prog 108 #[.slice A n c] w fun e w'=>∃ A' c',e=.returned (.slice A' n c')∧w'.ownsRow w.heap.size 3 1 (.slice A' n c') n (ints xs)∧Below w.heap.size w w':=by
 have hc:=Cells.of_own h
 have hlen:=h.1
 have hnil:=own_nil h
 have HLIT:=hid (lit_made (w:=w) (base:=w.heap.size) (e:=3) (size:=1) (Nat.le_refl _))
 have HC:=hid hc
 have HL:=hid hlen
 have HN:=hid hnil
 clear hc hlen hnil h
 go_enter Tryz.func108,Tryz.ntmps108
 go_wp2_with (at_builtin; refine wpList_copy Tryz.underlying30 infoI rfl (by decide) rfl rfl rfl rfl HLIT.out HL.out (HC.out.below ((Below.refl _ _).alloc (Nat.le_refl _) _)) HN.out (ints_one _) hn (by decide) (by simp) ?_; intro A' c' w1 hrow hb)
 have HR:=hid hrow
 have HB:=hid hb
 clear hrow hb
 go_ret
 refine ⟨A',c',rfl,HR.out,?_⟩
 have hb:Below w.heap.size w w1:=((Below.refl w.heap.size w).alloc (Nat.le_refl _) _).trans (HB.out.mono (by simp))
 exact hb
theorem litGate (w:World):(Instr.buildSlice 38 0 #[]).run Tryz.prog w=.ok (.slice (some ⟨w.heap.size,0,none⟩) 0 0) (w.alloc (.cells #[] 96)):=by kernel_rfl
def CircRows (B n m:Nat) (gs os:List Int) (u:Value) (w:World):Prop :=
 ∃ G cg O co,u=.agg #[.slice G n cg,.slice O m co]∧w.ownsRow B TG 3 (.slice G n cg) n (ints gs)∧w.ownsRow B 3 1 (.slice O m co) m (ints os)
theorem CircRows.stable {B n m:Nat} {gs os:List Int}:∀ v w w',CircRows B n m gs os v w→Grows w w'→CircRows B n m gs os v w':=by
 rintro v w w' ⟨G,cg,O,co,e,h1,h2⟩ hg
 exact ⟨G,cg,O,co,e,own_below h1 hg,own_below h2 hg⟩
set_option maxRecDepth 100000 in
theorem iCopyC (G O:Option Addr) (n cg m co:Nat) (gs os:List Int) (w:World) (h1:w.ownsRow 0 TG 3 (.slice G n cg) n (ints gs)) (h2:w.ownsRow 0 3 1 (.slice O m co) m (ints os)) (b1:n≤1000000) (b2:m≤1000000) :
  Calls Tryz.prog 156 #[.agg #[.slice G n cg,.slice O m co]] w fun e w'=>∃ G' cg' O' co',e=.returned (.agg #[.slice G' n cg',.slice O' m co']) ∧
   w'.ownsRow w.heap.size TG 3 (.slice G' n cg') n (ints gs)∧w'.ownsRow w.heap.size 3 1 (.slice O' m co') m (ints os)∧Below w.heap.size w w':=by
 go_enter Tryz.func156,Tryz.ntmps156
 have b_0:=(Below.refl w.heap.size w)
 have s_0:=b_0.size
 have og_in:=own_in h1
 have og_0:=h1
 clear h1
 have oo_in:=own_in h2
 have oo_0:=h2
 clear h2
 go_upto_region 1 with fail
 refine wp_forget2 (w0:=w) (B:=w.heap.size) (b0:=w.heap.size) (t0:=40) (c0:=#[.slice G n cg,.slice O m co]) (b1:=w.heap.size + 1) (t1:=40) (c1:=#[.slice none 0 0,.slice none 0 0]) ?_ ?_ ?_ ?_
 (focus exact blkcBy)
 (focus exact blkcBy)
 (focus (exact belBy))
 intro w1 x_1 r_1 hX1
 have sX1:=hX1.size
 have x_lt:=x_1.lt
 have r_lt:=r_1.lt
 have b_1:=b_0.trans (hX1.mono (by omega))
 have og_1:=own_below og_0 hX1
 have oo_1:=own_below oo_0 hX1
 clear og_0 oo_0 b_0 hX1
 have cell_x:=x_1.cell
 have froz_x:=x_1.frozen
 have lt_x:=x_1.lt
 have cell_r:=r_1.cell
 have froz_r:=r_1.frozen
 have lt_r:=r_1.lt
 have HOG:=hid og_1
 have HOO:=hid oo_1
 have HR:=hid r_1
 have HB:=hid b_1
 clear og_1 oo_1 r_1 b_1
 refine wp_grow_tail (W:=w1) (spec:=specOf [(0,LitOf w1.heap.size TG 3),(3,RowOf w1.heap.size TG 3 n (ints gs)),(6,RowOf w1.heap.size 3 1 m (ints os)),(7,CircRows w1.heap.size n m gs os)]) 8 (by kernel_rfl) (by kernel_rfl) (Onward.mk' ((Below.refl _ _).drew)) (specOf_stab ?_) ?_
 ·intro p hp
  simp only [List.mem_cons,List.not_mem_nil,or_false] at hp
  rcases hp with rfl | rfl | rfl | rfl
  all_goals
   first | exact LitOf.stable | exact RowOf.stable | exact CircRows.stable
 ·have q0:=fun (x:Later w1) (o:Nat)=>(x_1.below x.below x_1.lt).cell o
  refine gList_any (LitOf w1.heap.size TG 3) rfl rfl (fun w' hC _=>?_) (fun v0=>?_)
  ·obtain ⟨⟨w',hb⟩,rfl⟩:=hC
   exact grow_lit rfl litGate hb.size
  refine gList_quietN 2 ⟨rfl,rfl,rfl,rfl,trivial⟩ (by decide) ?_
  simp only [Act.put,List.setIfInBounds_toArray,List.set_cons_succ,List.set_cons_zero]
  delta Onward
  dsimp only [List.take,List.drop]
  repeat (go_big_quiet_step (fail))
  refine wpQuiet_nil ?_
  refine gList_any (RowOf w1.heap.size TG 3 n (ints gs)) rfl rfl (fun w' hC hd=>?_) (fun v3=>?_)
  ·obtain ⟨⟨w',hb⟩,rfl⟩:=hC
   have hl:=hd 0 (by kernel_rfl)
   rw [Facts.upd_self] at hl
   exact grow_copy Tryz.underlying38 infoGt rfl (by decide) rfl rfl rfl hl HOG.out.1 ((Cells.of_own HOG.out).below hb) (own_nil HOG.out) (ints_one _) (by omega) (by decide) hb.size
  refine gList_quietN 2 ⟨rfl,rfl,rfl,rfl,trivial⟩ (by decide) ?_
  simp only [Act.put,List.setIfInBounds_toArray,List.set_cons_succ,List.set_cons_zero]
  dsimp only [List.take,List.drop]
  repeat (go_big_quiet_step (fail))
  refine wpQuiet_nil ?_
  refine gList_any (RowOf w1.heap.size 3 1 m (ints os)) rfl rfl (fun w' hC hd=>?_) (fun v6=>?_)
  ·obtain ⟨⟨w',hb⟩,rfl⟩:=hC
   refine grow_call (f:=108) (args:=#[.slice O m co]) (by simp [go_sem]) ?_
   refine (iIntsO O co m os w' (own_below HOO.out hb) (by omega)).mono ?_
   rintro e w2 ⟨A',c',rfl,hrow,hb2⟩
   exact ⟨_,rfl,hb2,A',c',rfl,own_weak hrow hb.size⟩
  refine gList_any (CircRows w1.heap.size n m gs os) rfl rfl (fun w' hC hd=>?_) (fun v7=>?_)
  ·obtain ⟨⟨w',hb⟩,rfl⟩:=hC
   have g1:RowOf w1.heap.size TG 3 n (ints gs) v3 w':=hd 3 (by kernel_rfl)
   have g2:RowOf w1.heap.size 3 1 m (ints os) v6 w':=hd 6 (by kernel_rfl)
   obtain ⟨J',cj',rfl,g1⟩:=g1
   obtain ⟨T',ct',rfl,g2⟩:=g2
   have HG1:=hid g1
   have HG2:=hid g2
   clear g1 g2
   simp [go_sem,growUpon]
   exact ⟨Below.refl _ _,_,_,_,_,rfl,HG1.out,HG2.out⟩
  unfold gList
  intro w' hW hfs
  have hlast:CircRows w1.heap.size n m gs os v7 w':=hfs 7
  obtain ⟨⟨w',hb⟩,rfl⟩:=hW
  obtain ⟨J',cj',T',ct',rfl,g1,g2⟩:=hlast
  have HG1:=hid g1
  have HG2:=hid g2
  have HB2:=hid hb
  have kr:=HR.out.past hb
  have cell_r2:=kr.cell
  have froz_r2:=kr.frozen
  have lt_r2:=kr.lt
  have HKR:=hid kr
  clear g1 g2 hfs hb q0 kr
  dsimp only [List.drop]
  simp only [Act.put,List.setIfInBounds_toArray,List.set_cons_succ,List.set_cons_zero]
  go_wp2_with fail
  ((try simp only [Exit.inBlock,Exit.then]); apply bodyPost_ret0; focus ((try simp only [results,Tryz.results156]); (try go_simp); (try rfl)))
  refine ⟨J',cj',T',ct',rfl,?_,?_,?_⟩
  ·refine own_weak (base:=w1.heap.size) ?_ (by omega)
   have h:=HG1.out
   exact ownBy
  ·refine own_weak (base:=w1.heap.size) ?_ (by omega)
   have h:=HG2.out
   exact ownBy
  ·have hb0:=HB.out
   have hb2:=HB2.out
   exact belBy
end Go.Proofs.YtihbaieiempjeaaGreat
