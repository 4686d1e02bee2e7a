/- Lemmas of the proof: CompS, CompJ, RegsV, UszI. -/
import Derived.Test.YtihbaieiempjeaaGreatD0
import Derived.Test.YtihbaieiempjeaaGreatD11
import Derived.Test.YtihbaieiempjeaaGreatD5
namespace Go.Proofs.YtihbaieiempjeaaGreat
open Go.RowKit
theorem Blk.heap {w X:World} {b t:Nat} {cs:Array Value} (h:Blk w b t cs) (e:X.heap=w.heap):Blk X b t cs:=by
 unfold Blk at h ⊢
 rw [e]
 exact h
theorem and_seven {a:Nat} (h:a≤7):bits .and .i64 (a:Int) 7=(a:Int):=by
 rw [show (7:Int)=((7:Nat):Int) from rfl,and_nat _ _ (by omega) (by omega),Nat.and_two_pow_sub_one_eq_mod a 3]
 omega
set_option linter.unusedVariables false in
set_option maxRecDepth 100000 in
set_option maxHeartbeats 1600000 in
theorem sComp1 {lo bp gr kr d a b c n bx ox cx bY oy cy:Nat} {gs:List Gt} {O:Value} {xs ys:List Int} (w:World) (h:Bld TS w lo bp gs O) (hl:gs.length≤5000)
  (ha:a≤7) (hb:b≤7) (hrl:gr < w.heap.size) (h8:8≤kr) (hcx:w.cell? ⟨gr,a,none⟩=some (.slice (some ⟨bx,ox,none⟩) 4 cx)) (hcy:w.cell? ⟨gr,b,none⟩=some (.slice (some ⟨bY,oy,none⟩) 4 cy))
  (hx:Wd w (some ⟨bx,ox,none⟩) xs) (hy:Wd w (some ⟨bY,oy,none⟩) ys) (hx4:xs.length=4) (hy4:ys.length=4) (hn:0≤(n:Int)∧(n:Int)≤15) :
  Calls Tryz.prog 61 #[.pointer (some ⟨bp,0,none⟩),.slice (some ⟨gr,0,none⟩) 8 kr,.agg #[.int .i64 1,.int .i64 (d:Int),.int .i64 (a:Int),.int .i64 (b:Int),.int .i64 (c:Int),.int .i64 (n:Int)],.int .i64 0] w fun e w'=>∃ g k,e=.returned (.slice (some ⟨g,0,none⟩) 4 k)∧w.heap.size≤g∧RowI w' g 4 k (upW gs.length 4)∧Bld TS w' lo bp (constTo gs n 4) O∧Stay TS lo w w':=by
 have HX:=hid (And.intro h (And.intro hx hy))
 have lbx:=hx.lt
 clear h hx hy
 have am:=and_seven ha
 have a8:(a:Int) < 8:=by omega
 have b8:(b:Int) < 8:=by omega
 go_enter Tryz.func61,Tryz.ntmps61
 have b_0:=(Below.refl w.heap.size w)
 have s_0:=b_0.size
 have qx_0:=hcx
 clear hcx
 have lt_qx:gr < w.heap.size:=by omega
 have qy_0:=hcy
 clear hcy
 have lt_qy:gr < w.heap.size:=by omega
 go_upto_region 1 with fail
 refine wp_forget1 (w0:=w) (B:=w.heap.size) (b0:=w.heap.size) (t0:=73) (c0:=#[.int .i64 1,.int .i64 (d:Int),.int .i64 (a:Int),.int .i64 (b:Int),.int .i64 (c:Int),.int .i64 (n:Int)]) ?_ ?_ ?_
 (focus exact blkcBy)
 (focus (exact belBy))
 intro w1 q_1 hX1
 have sX1:=hX1.size
 have q_lt:=q_1.lt
 have b_1:=b_0.trans (hX1.mono (by omega))
 have qx_1:=cell_kept qx_0 hX1 (by dsimp only; omega)
 have qy_1:=cell_kept qy_0 hX1 (by dsimp only; omega)
 clear qx_0 qy_0 b_0 lt_qx lt_qy hX1
 have cell_q:=q_1.cell
 have froz_q:=q_1.frozen
 have lt_q:=q_1.lt
 have lt_qx:gr < w1.heap.size:=(by omega)
 have lt_qy:gr < w1.heap.size:=(by omega)
 have H1:=hid (And.intro (HX.out.1.below b_1) (And.intro (HX.out.2.1.below b_1) (And.intro (HX.out.2.2.below b_1) (Stay.of_below (T:=TS) (lo:=lo) b_1))))
 have Q1:=hid q_1
 have ob:=hid b_1
 have z1:=b_1.size
 clear b_1 q_1 HX
 go_wp2_with fail
 refine Calls.mono (sConst (n:Int) _ H1.out.1 (by omega) hn) ?_
 rintro e w5 ⟨g5,k5,rfl,hge,k3,k1,k2⟩
 have z5:=k2.size
 have HF:=hid (And.intro k3 (And.intro k1 (H1.out.2.2.2.trans k2)))
 clear k1 k2 k3
 go_wp2
 go_returns
 exact ⟨g5,k5,rfl,by omega,HF.out.1,HF.out.2.1,HF.out.2.2⟩
set_option linter.unusedVariables false in
set_option maxRecDepth 100000 in
set_option maxHeartbeats 1600000 in
theorem sComp2 {lo bp gr kr d a b c n bx ox cx bY oy cy:Nat} {gs:List Gt} {O:Value} {xs ys:List Int} (w:World) (h:Bld TS w lo bp gs O) (hl:gs.length≤5000)
  (ha:a≤7) (hb:b≤7) (hrl:gr < w.heap.size) (h8:8≤kr) (hcx:w.cell? ⟨gr,a,none⟩=some (.slice (some ⟨bx,ox,none⟩) 4 cx)) (hcy:w.cell? ⟨gr,b,none⟩=some (.slice (some ⟨bY,oy,none⟩) 4 cy))
  (hx:Wd w (some ⟨bx,ox,none⟩) xs) (hy:Wd w (some ⟨bY,oy,none⟩) ys) (hx4:xs.length=4) (hy4:ys.length=4) (ha4:(a:Int)≤4) (hn:0≤(n:Int)∧(n:Int)≤3) :
  Calls Tryz.prog 61 #[.pointer (some ⟨bp,0,none⟩),.slice (some ⟨gr,0,none⟩) 8 kr,.agg #[.int .i64 2,.int .i64 (d:Int),.int .i64 (a:Int),.int .i64 (b:Int),.int .i64 (c:Int),.int .i64 (n:Int)],.int .i64 0] w fun e w'=>∃ g k,e=.returned (.slice (some ⟨g,0,none⟩) 4 k)∧w.heap.size≤g∧RowI w' g 4 k (upW gs.length 4)∧Bld TS w' lo bp (inTo gs a n 4) O∧Stay TS lo w w':=by
 have HX:=hid (And.intro h (And.intro hx hy))
 have lbx:=hx.lt
 clear h hx hy
 have am:=and_seven ha
 have a8:(a:Int) < 8:=by omega
 have b8:(b:Int) < 8:=by omega
 go_enter Tryz.func61,Tryz.ntmps61
 have b_0:=(Below.refl w.heap.size w)
 have s_0:=b_0.size
 have qx_0:=hcx
 clear hcx
 have lt_qx:gr < w.heap.size:=by omega
 have qy_0:=hcy
 clear hcy
 have lt_qy:gr < w.heap.size:=by omega
 go_upto_region 1 with fail
 refine wp_forget1 (w0:=w) (B:=w.heap.size) (b0:=w.heap.size) (t0:=73) (c0:=#[.int .i64 2,.int .i64 (d:Int),.int .i64 (a:Int),.int .i64 (b:Int),.int .i64 (c:Int),.int .i64 (n:Int)]) ?_ ?_ ?_
 (focus exact blkcBy)
 (focus (exact belBy))
 intro w1 q_1 hX1
 have sX1:=hX1.size
 have q_lt:=q_1.lt
 have b_1:=b_0.trans (hX1.mono (by omega))
 have qx_1:=cell_kept qx_0 hX1 (by dsimp only; omega)
 have qy_1:=cell_kept qy_0 hX1 (by dsimp only; omega)
 clear qx_0 qy_0 b_0 lt_qx lt_qy hX1
 have cell_q:=q_1.cell
 have froz_q:=q_1.frozen
 have lt_q:=q_1.lt
 have lt_qx:gr < w1.heap.size:=(by omega)
 have lt_qy:gr < w1.heap.size:=(by omega)
 have H1:=hid (And.intro (HX.out.1.below b_1) (And.intro (HX.out.2.1.below b_1) (And.intro (HX.out.2.2.below b_1) (Stay.of_below (T:=TS) (lo:=lo) b_1))))
 have Q1:=hid q_1
 have ob:=hid b_1
 have z1:=b_1.size
 clear b_1 q_1 HX
 go_upto_region 8 with fail
 obtain ⟨w9,hw9⟩:∃ w9,w9=w1.alloc (.cells #[] 3):=⟨_,rfl⟩
 have hb:Below w1.heap.size w1 w9:=by rw [hw9]; exact (Below.refl _ _).alloc (Nat.le_refl _) _
 have ho9:RowI w9 w1.heap.size 0 0 []:=by rw [hw9]; exact Row.new #[] (Nat.zero_le _) rfl rfl
 rw [←hw9]
 have H9:=hid (And.intro ((H1.out.1).below hb) (And.intro (ho9) ((Stay.of_below (T:=TS) (lo:=lo) hb))))
 have hbk:=(H1.out.1).len
 clear ho9 hb hw9
 go_wp2_with fail
 go_loopw [11,12] (fun o i wr=>∃ (m g k:Nat),m≤4∧i=.int .i64 (m:Int)∧o=.slice (some ⟨g,0,none⟩) m k∧w1.heap.size≤g∧Bld TS wr lo bp (inTo gs a n m) O∧RowI wr g m k (upW gs.length m)∧Stay TS lo w1 wr) (fun _ i _=>4 - (intOf i).toNat)
 case atStart=>exact ⟨0,w1.heap.size,0,Nat.zero_le _,rfl,rfl,Nat.le_refl _,H9.out.1,H9.out.2.1,H9.out.2.2⟩
 case round =>
  clear H9
  obtain ⟨m,g,k,hm,rfl,rfl,hg,hB,hR,hS⟩:=hrel
  have zr:=hS.size
  by_cases hlt:m < 4
  ·have hlt':(m:Int) < 4:=by omega
   have hq:=hS.blk Q1.out (by decide) (by decide)
   have cell_q:=hq.cell
   have lt_q:=hq.lt
   clear hq
   have hlen:(inTo gs a n m).length=gs.length + m:=inTo_length _ _ _ _
   obtain ⟨N1,hN1⟩:∃ N,gs.length + m=N:=⟨_,rfl⟩
   rw [hN1] at hlen
   have HT:=hid (show inTo gs a n (m + 1)=inTo gs a n m ++ [⟨1,((a:Int) * 4 + n) * 4 + m,0⟩] from rfl)
   have hB0:=hB
   have H:=hid (And.intro (hB) (And.intro (hR) (hS)))
   clear hB hR hS
   go_wp2_with fail
   refine Calls.mono (sGate (n:=N1) _ _ _ _ (Bld.heap hB0 rfl) hlen (by omega)) ?_
   rintro e w7 ⟨rfl,h,t⟩
   have z3:=t.size
   have hS3:=H.out.2.2.onto t rfl rfl rfl rfl
   have zs3:=hS3.size
   have HR3:=hid (Row.onto H.out.2.1 t rfl (by decide) (by decide))
   have H3:=hid (And.intro (h) (hS3))
   clear h t hS3 hB0 H
   go_wp2_with (at_builtin; refine app_int rfl _ _ rfl rfl (HR3.out.alloc _) [((N1 + 0:Nat):Int)] rfl rfl (top_cells _ [_] _) (by omega) ?_)
   intro g' k' w8 h1 h2 h3
   have h2:=grown_alloc h2
   have hg':w1.heap.size≤g':=by (try simp at h3); omega
   have H8:=hid (And.intro ((bld_cast (gs':=inTo gs a n (m + 1)) (H3.out.1.grown h2 HR3.out (by decide)) (by rw [HT.out]))) (And.intro ((row_eq (ys:=upW gs.length (m + 1)) h1 (by first | (rw [upW,←hN1]; done) | (rw [upW,←hN1]; simp)))) ((H3.out.2.grown h2 (by omega)))))
   clear h1 h2 h3 H3 HR3
   go_wp2
   go_roundw
   case rel=>exact ⟨m + 1,g',k',by omega,by go_num,rfl,hg',H8.out.1,H8.out.2.1,H8.out.2.2⟩
   case measure=>simp [intOf]; omega
  ·obtain rfl:m=4:=by omega
   have H:=hid (And.intro hB (And.intro hR (H1.out.2.2.2.trans hS)))
   clear hB hR hS
   go_wp2
   go_returns
   exact ⟨g,k,rfl,by omega,H.out.2.1,H.out.1,H.out.2.2⟩
set_option linter.unusedVariables false in
set_option maxRecDepth 100000 in
set_option maxHeartbeats 1600000 in
theorem sComp3 {lo bp gr kr d a b c n bx ox cx bY oy cy:Nat} {gs:List Gt} {O:Value} {xs ys:List Int} (w:World) (h:Bld TS w lo bp gs O) (hl:gs.length≤5000)
  (ha:a≤7) (hb:b≤7) (hrl:gr < w.heap.size) (h8:8≤kr) (hcx:w.cell? ⟨gr,a,none⟩=some (.slice (some ⟨bx,ox,none⟩) 4 cx)) (hcy:w.cell? ⟨gr,b,none⟩=some (.slice (some ⟨bY,oy,none⟩) 4 cy))
  (hx:Wd w (some ⟨bx,ox,none⟩) xs) (hy:Wd w (some ⟨bY,oy,none⟩) ys) (hx4:xs.length=4) (hy4:ys.length=4) :
  Calls Tryz.prog 61 #[.pointer (some ⟨bp,0,none⟩),.slice (some ⟨gr,0,none⟩) 8 kr,.agg #[.int .i64 3,.int .i64 (d:Int),.int .i64 (a:Int),.int .i64 (b:Int),.int .i64 (c:Int),.int .i64 (n:Int)],.int .i64 0] w fun e w'=>∃ g k,e=.returned (.slice (some ⟨g,0,none⟩) 4 k)∧w.heap.size≤g∧RowI w' g 4 k (sumW gs.length 3)∧Bld TS w' lo bp (sumG gs xs ys 0 3) O∧Stay TS lo w w':=by
 have HX:=hid (And.intro h (And.intro hx hy))
 have lbx:=hx.lt
 clear h hx hy
 have am:=and_seven ha
 have a8:(a:Int) < 8:=by omega
 have b8:(b:Int) < 8:=by omega
 go_enter Tryz.func61,Tryz.ntmps61
 have b_0:=(Below.refl w.heap.size w)
 have s_0:=b_0.size
 have qx_0:=hcx
 clear hcx
 have lt_qx:gr < w.heap.size:=by omega
 have qy_0:=hcy
 clear hcy
 have lt_qy:gr < w.heap.size:=by omega
 go_upto_region 1 with fail
 refine wp_forget1 (w0:=w) (B:=w.heap.size) (b0:=w.heap.size) (t0:=73) (c0:=#[.int .i64 3,.int .i64 (d:Int),.int .i64 (a:Int),.int .i64 (b:Int),.int .i64 (c:Int),.int .i64 (n:Int)]) ?_ ?_ ?_
 (focus exact blkcBy)
 (focus (exact belBy))
 intro w1 q_1 hX1
 have sX1:=hX1.size
 have q_lt:=q_1.lt
 have b_1:=b_0.trans (hX1.mono (by omega))
 have qx_1:=cell_kept qx_0 hX1 (by dsimp only; omega)
 have qy_1:=cell_kept qy_0 hX1 (by dsimp only; omega)
 clear qx_0 qy_0 b_0 lt_qx lt_qy hX1
 have cell_q:=q_1.cell
 have froz_q:=q_1.frozen
 have lt_q:=q_1.lt
 have lt_qx:gr < w1.heap.size:=(by omega)
 have lt_qy:gr < w1.heap.size:=(by omega)
 have H1:=hid (And.intro (HX.out.1.below b_1) (And.intro (HX.out.2.1.below b_1) (And.intro (HX.out.2.2.below b_1) (Stay.of_below (T:=TS) (lo:=lo) b_1))))
 have Q1:=hid q_1
 have ob:=hid b_1
 have z1:=b_1.size
 clear b_1 q_1 HX
 go_wp2_with fail
 refine Calls.mono (sSum (n:=gs.length) 0 3 _ H1.out.1 rfl (by omega) H1.out.2.1 H1.out.2.2.1 hx4 hy4 (by omega)) ?_
 rintro e w5 ⟨g5,k5,rfl,hge,k3,k1,k2⟩
 have z5:=k2.size
 have HF:=hid (And.intro k3 (And.intro k1 (H1.out.2.2.2.trans k2)))
 clear k1 k2 k3
 go_wp2
 go_returns
 exact ⟨g5,k5,rfl,by omega,HF.out.1,HF.out.2.1,HF.out.2.2⟩
set_option linter.unusedVariables false in
set_option maxRecDepth 100000 in
set_option maxHeartbeats 1600000 in
theorem sComp4 {lo bp gr kr d a b c n bx ox cx bY oy cy:Nat} {gs:List Gt} {O:Value} {xs ys:List Int} (w:World) (h:Bld TS w lo bp gs O) (hl:gs.length≤5000)
  (ha:a≤7) (hb:b≤7) (hrl:gr < w.heap.size) (h8:8≤kr) (hcx:w.cell? ⟨gr,a,none⟩=some (.slice (some ⟨bx,ox,none⟩) 4 cx)) (hcy:w.cell? ⟨gr,b,none⟩=some (.slice (some ⟨bY,oy,none⟩) 4 cy))
  (hx:Wd w (some ⟨bx,ox,none⟩) xs) (hy:Wd w (some ⟨bY,oy,none⟩) ys) (hx4:xs.length=4) (hy4:ys.length=4) :
  Calls Tryz.prog 61 #[.pointer (some ⟨bp,0,none⟩),.slice (some ⟨gr,0,none⟩) 8 kr,.agg #[.int .i64 4,.int .i64 (d:Int),.int .i64 (a:Int),.int .i64 (b:Int),.int .i64 (c:Int),.int .i64 (n:Int)],.int .i64 0] w fun e w'=>∃ g k,e=.returned (.slice (some ⟨g,0,none⟩) 4 k)∧w.heap.size≤g∧RowI w' g 4 k (sumW (gs.length + 4) 3)∧Bld TS w' lo bp (sumG (notsG gs ys) xs (upW gs.length 4) 1 3) O∧Stay TS lo w w':=by
 have HX:=hid (And.intro h (And.intro hx hy))
 have lbx:=hx.lt
 clear h hx hy
 have am:=and_seven ha
 have a8:(a:Int) < 8:=by omega
 have b8:(b:Int) < 8:=by omega
 go_enter Tryz.func61,Tryz.ntmps61
 have b_0:=(Below.refl w.heap.size w)
 have s_0:=b_0.size
 have qx_0:=hcx
 clear hcx
 have lt_qx:gr < w.heap.size:=by omega
 have qy_0:=hcy
 clear hcy
 have lt_qy:gr < w.heap.size:=by omega
 go_upto_region 1 with fail
 refine wp_forget1 (w0:=w) (B:=w.heap.size) (b0:=w.heap.size) (t0:=73) (c0:=#[.int .i64 4,.int .i64 (d:Int),.int .i64 (a:Int),.int .i64 (b:Int),.int .i64 (c:Int),.int .i64 (n:Int)]) ?_ ?_ ?_
 (focus exact blkcBy)
 (focus (exact belBy))
 intro w1 q_1 hX1
 have sX1:=hX1.size
 have q_lt:=q_1.lt
 have b_1:=b_0.trans (hX1.mono (by omega))
 have qx_1:=cell_kept qx_0 hX1 (by dsimp only; omega)
 have qy_1:=cell_kept qy_0 hX1 (by dsimp only; omega)
 clear qx_0 qy_0 b_0 lt_qx lt_qy hX1
 have cell_q:=q_1.cell
 have froz_q:=q_1.frozen
 have lt_q:=q_1.lt
 have lt_qx:gr < w1.heap.size:=(by omega)
 have lt_qy:gr < w1.heap.size:=(by omega)
 have H1:=hid (And.intro (HX.out.1.below b_1) (And.intro (HX.out.2.1.below b_1) (And.intro (HX.out.2.2.below b_1) (Stay.of_below (T:=TS) (lo:=lo) b_1))))
 have Q1:=hid q_1
 have ob:=hid b_1
 have z1:=b_1.size
 clear b_1 q_1 HX
 go_wp2_with fail
 refine Calls.mono (sNots (n:=gs.length) (N:=4) _ H1.out.1 rfl (by omega) H1.out.2.2.1 hy4 (by omega)) ?_
 rintro e w3 ⟨g3,k3,rfl,hg3,hrow,hbl,hst⟩
 have z3:=hst.size
 have H3:=hid (And.intro hbl (And.intro (H1.out.2.1.stay hst (by decide)) (And.intro (Wd.of_row hrow) (H1.out.2.2.2.trans hst))))
 clear hrow hbl hst
 go_wp2_with fail
 refine Calls.mono (sSum (n:=gs.length + 4) 1 3 _ H3.out.1 (by rw [notsG_length,hy4]) (by omega) H3.out.2.1 H3.out.2.2.1 hx4 (upW_length _ _) (by omega)) ?_
 rintro e w5 ⟨g5,k5,rfl,hge,k3,k1,k2⟩
 have z5:=k2.size
 have HF:=hid (And.intro k3 (And.intro k1 (H3.out.2.2.2.trans k2)))
 clear k1 k2 k3
 go_wp2
 go_returns
 exact ⟨g5,k5,rfl,by omega,HF.out.1,HF.out.2.1,HF.out.2.2⟩
set_option linter.unusedVariables false in
set_option maxRecDepth 100000 in
set_option maxHeartbeats 1600000 in
theorem sComp5 {lo bp gr kr d a b c n bx ox cx bY oy cy:Nat} {gs:List Gt} {O:Value} {xs ys:List Int} (w:World) (h:Bld TS w lo bp gs O) (hl:gs.length≤5000)
  (ha:a≤7) (hb:b≤7) (hrl:gr < w.heap.size) (h8:8≤kr) (hcx:w.cell? ⟨gr,a,none⟩=some (.slice (some ⟨bx,ox,none⟩) 4 cx)) (hcy:w.cell? ⟨gr,b,none⟩=some (.slice (some ⟨bY,oy,none⟩) 4 cy))
  (hx:Wd w (some ⟨bx,ox,none⟩) xs) (hy:Wd w (some ⟨bY,oy,none⟩) ys) (hx4:xs.length=4) (hy4:ys.length=4) :
  Calls Tryz.prog 61 #[.pointer (some ⟨bp,0,none⟩),.slice (some ⟨gr,0,none⟩) 8 kr,.agg #[.int .i64 5,.int .i64 (d:Int),.int .i64 (a:Int),.int .i64 (b:Int),.int .i64 (c:Int),.int .i64 (n:Int)],.int .i64 0] w fun e w'=>∃ g k,e=.returned (.slice (some ⟨g,0,none⟩) 4 k)∧w.heap.size≤g∧RowI w' g 4 k ((mulTo gs xs ys 3).2)∧Bld TS w' lo bp ((mulTo gs xs ys 3).1) O∧Stay TS lo w w':=by
 have HX:=hid (And.intro h (And.intro hx hy))
 have lbx:=hx.lt
 clear h hx hy
 have am:=and_seven ha
 have a8:(a:Int) < 8:=by omega
 have b8:(b:Int) < 8:=by omega
 go_enter Tryz.func61,Tryz.ntmps61
 have b_0:=(Below.refl w.heap.size w)
 have s_0:=b_0.size
 have qx_0:=hcx
 clear hcx
 have lt_qx:gr < w.heap.size:=by omega
 have qy_0:=hcy
 clear hcy
 have lt_qy:gr < w.heap.size:=by omega
 go_upto_region 1 with fail
 refine wp_forget1 (w0:=w) (B:=w.heap.size) (b0:=w.heap.size) (t0:=73) (c0:=#[.int .i64 5,.int .i64 (d:Int),.int .i64 (a:Int),.int .i64 (b:Int),.int .i64 (c:Int),.int .i64 (n:Int)]) ?_ ?_ ?_
 (focus exact blkcBy)
 (focus (exact belBy))
 intro w1 q_1 hX1
 have sX1:=hX1.size
 have q_lt:=q_1.lt
 have b_1:=b_0.trans (hX1.mono (by omega))
 have qx_1:=cell_kept qx_0 hX1 (by dsimp only; omega)
 have qy_1:=cell_kept qy_0 hX1 (by dsimp only; omega)
 clear qx_0 qy_0 b_0 lt_qx lt_qy hX1
 have cell_q:=q_1.cell
 have froz_q:=q_1.frozen
 have lt_q:=q_1.lt
 have lt_qx:gr < w1.heap.size:=(by omega)
 have lt_qy:gr < w1.heap.size:=(by omega)
 have H1:=hid (And.intro (HX.out.1.below b_1) (And.intro (HX.out.2.1.below b_1) (And.intro (HX.out.2.2.below b_1) (Stay.of_below (T:=TS) (lo:=lo) b_1))))
 have Q1:=hid q_1
 have ob:=hid b_1
 have z1:=b_1.size
 clear b_1 q_1 HX
 go_wp2_with fail
 refine Calls.mono (sMul _ H1.out.1 hl H1.out.2.1 H1.out.2.2.1 hx4 hy4) ?_
 rintro e w5 ⟨g5,k5,rfl,hge,k3,k1,k2⟩
 have z5:=k2.size
 have HF:=hid (And.intro k3 (And.intro k1 (H1.out.2.2.2.trans k2)))
 clear k1 k2 k3
 go_wp2
 go_returns
 exact ⟨g5,k5,rfl,by omega,HF.out.1,HF.out.2.1,HF.out.2.2⟩
set_option linter.unusedVariables false in
set_option maxRecDepth 100000 in
set_option maxHeartbeats 1600000 in
theorem sComp6 {lo bp gr kr d a b c n bx ox cx bY oy cy:Nat} {gs:List Gt} {O:Value} {xs ys:List Int} (w:World) (h:Bld TS w lo bp gs O) (hl:gs.length≤5000)
  (ha:a≤7) (hb:b≤7) (hrl:gr < w.heap.size) (h8:8≤kr) (hcx:w.cell? ⟨gr,a,none⟩=some (.slice (some ⟨bx,ox,none⟩) 4 cx)) (hcy:w.cell? ⟨gr,b,none⟩=some (.slice (some ⟨bY,oy,none⟩) 4 cy))
  (hx:Wd w (some ⟨bx,ox,none⟩) xs) (hy:Wd w (some ⟨bY,oy,none⟩) ys) (hx4:xs.length=4) (hy4:ys.length=4) :
  Calls Tryz.prog 61 #[.pointer (some ⟨bp,0,none⟩),.slice (some ⟨gr,0,none⟩) 8 kr,.agg #[.int .i64 6,.int .i64 (d:Int),.int .i64 (a:Int),.int .i64 (b:Int),.int .i64 (c:Int),.int .i64 (n:Int)],.int .i64 0] w fun e w'=>∃ g k,e=.returned (.slice (some ⟨g,0,none⟩) 4 k)∧w.heap.size≤g∧RowI w' g 4 k (upW gs.length 4)∧Bld TS w' lo bp (bitTo gs 4 xs ys 4) O∧Stay TS lo w w':=by
 have HX:=hid (And.intro h (And.intro hx hy))
 have lbx:=hx.lt
 clear h hx hy
 have am:=and_seven ha
 have a8:(a:Int) < 8:=by omega
 have b8:(b:Int) < 8:=by omega
 go_enter Tryz.func61,Tryz.ntmps61
 have b_0:=(Below.refl w.heap.size w)
 have s_0:=b_0.size
 have qx_0:=hcx
 clear hcx
 have lt_qx:gr < w.heap.size:=by omega
 have qy_0:=hcy
 clear hcy
 have lt_qy:gr < w.heap.size:=by omega
 go_upto_region 1 with fail
 refine wp_forget1 (w0:=w) (B:=w.heap.size) (b0:=w.heap.size) (t0:=73) (c0:=#[.int .i64 6,.int .i64 (d:Int),.int .i64 (a:Int),.int .i64 (b:Int),.int .i64 (c:Int),.int .i64 (n:Int)]) ?_ ?_ ?_
 (focus exact blkcBy)
 (focus (exact belBy))
 intro w1 q_1 hX1
 have sX1:=hX1.size
 have q_lt:=q_1.lt
 have b_1:=b_0.trans (hX1.mono (by omega))
 have qx_1:=cell_kept qx_0 hX1 (by dsimp only; omega)
 have qy_1:=cell_kept qy_0 hX1 (by dsimp only; omega)
 clear qx_0 qy_0 b_0 lt_qx lt_qy hX1
 have cell_q:=q_1.cell
 have froz_q:=q_1.frozen
 have lt_q:=q_1.lt
 have lt_qx:gr < w1.heap.size:=(by omega)
 have lt_qy:gr < w1.heap.size:=(by omega)
 have H1:=hid (And.intro (HX.out.1.below b_1) (And.intro (HX.out.2.1.below b_1) (And.intro (HX.out.2.2.below b_1) (Stay.of_below (T:=TS) (lo:=lo) b_1))))
 have Q1:=hid q_1
 have ob:=hid b_1
 have z1:=b_1.size
 clear b_1 q_1 HX
 go_wp2_with fail
 refine Calls.mono (sBits4 4 _ H1.out.1 (by omega) H1.out.2.1 H1.out.2.2.1 hx4 hy4) ?_
 rintro e w5 ⟨g5,k5,rfl,hge,k3,k1,k2⟩
 have z5:=k2.size
 have HF:=hid (And.intro k3 (And.intro k1 (H1.out.2.2.2.trans k2)))
 clear k1 k2 k3
 go_wp2
 go_returns
 exact ⟨g5,k5,rfl,by omega,HF.out.1,HF.out.2.1,HF.out.2.2⟩
set_option linter.unusedVariables false in
set_option maxRecDepth 100000 in
set_option maxHeartbeats 1600000 in
theorem sComp7 {lo bp gr kr d a b c n bx ox cx bY oy cy:Nat} {gs:List Gt} {O:Value} {xs ys:List Int} (w:World) (h:Bld TS w lo bp gs O) (hl:gs.length≤5000)
  (ha:a≤7) (hb:b≤7) (hrl:gr < w.heap.size) (h8:8≤kr) (hcx:w.cell? ⟨gr,a,none⟩=some (.slice (some ⟨bx,ox,none⟩) 4 cx)) (hcy:w.cell? ⟨gr,b,none⟩=some (.slice (some ⟨bY,oy,none⟩) 4 cy))
  (hx:Wd w (some ⟨bx,ox,none⟩) xs) (hy:Wd w (some ⟨bY,oy,none⟩) ys) (hx4:xs.length=4) (hy4:ys.length=4) :
  Calls Tryz.prog 61 #[.pointer (some ⟨bp,0,none⟩),.slice (some ⟨gr,0,none⟩) 8 kr,.agg #[.int .i64 7,.int .i64 (d:Int),.int .i64 (a:Int),.int .i64 (b:Int),.int .i64 (c:Int),.int .i64 (n:Int)],.int .i64 0] w fun e w'=>∃ g k,e=.returned (.slice (some ⟨g,0,none⟩) 4 k)∧w.heap.size≤g∧RowI w' g 4 k (upW gs.length 4)∧Bld TS w' lo bp (bitTo gs 3 xs ys 4) O∧Stay TS lo w w':=by
 have HX:=hid (And.intro h (And.intro hx hy))
 have lbx:=hx.lt
 clear h hx hy
 have am:=and_seven ha
 have a8:(a:Int) < 8:=by omega
 have b8:(b:Int) < 8:=by omega
 go_enter Tryz.func61,Tryz.ntmps61
 have b_0:=(Below.refl w.heap.size w)
 have s_0:=b_0.size
 have qx_0:=hcx
 clear hcx
 have lt_qx:gr < w.heap.size:=by omega
 have qy_0:=hcy
 clear hcy
 have lt_qy:gr < w.heap.size:=by omega
 go_upto_region 1 with fail
 refine wp_forget1 (w0:=w) (B:=w.heap.size) (b0:=w.heap.size) (t0:=73) (c0:=#[.int .i64 7,.int .i64 (d:Int),.int .i64 (a:Int),.int .i64 (b:Int),.int .i64 (c:Int),.int .i64 (n:Int)]) ?_ ?_ ?_
 (focus exact blkcBy)
 (focus (exact belBy))
 intro w1 q_1 hX1
 have sX1:=hX1.size
 have q_lt:=q_1.lt
 have b_1:=b_0.trans (hX1.mono (by omega))
 have qx_1:=cell_kept qx_0 hX1 (by dsimp only; omega)
 have qy_1:=cell_kept qy_0 hX1 (by dsimp only; omega)
 clear qx_0 qy_0 b_0 lt_qx lt_qy hX1
 have cell_q:=q_1.cell
 have froz_q:=q_1.frozen
 have lt_q:=q_1.lt
 have lt_qx:gr < w1.heap.size:=(by omega)
 have lt_qy:gr < w1.heap.size:=(by omega)
 have H1:=hid (And.intro (HX.out.1.below b_1) (And.intro (HX.out.2.1.below b_1) (And.intro (HX.out.2.2.below b_1) (Stay.of_below (T:=TS) (lo:=lo) b_1))))
 have Q1:=hid q_1
 have ob:=hid b_1
 have z1:=b_1.size
 clear b_1 q_1 HX
 go_wp2_with fail
 refine Calls.mono (sBits4 3 _ H1.out.1 (by omega) H1.out.2.1 H1.out.2.2.1 hx4 hy4) ?_
 rintro e w5 ⟨g5,k5,rfl,hge,k3,k1,k2⟩
 have z5:=k2.size
 have HF:=hid (And.intro k3 (And.intro k1 (H1.out.2.2.2.trans k2)))
 clear k1 k2 k3
 go_wp2
 go_returns
 exact ⟨g5,k5,rfl,by omega,HF.out.1,HF.out.2.1,HF.out.2.2⟩
set_option linter.unusedVariables false in
set_option maxRecDepth 100000 in
set_option maxHeartbeats 1600000 in
theorem sComp8 {lo bp gr kr d a b c n bx ox cx bY oy cy:Nat} {gs:List Gt} {O:Value} {xs ys:List Int} (w:World) (h:Bld TS w lo bp gs O) (hl:gs.length≤5000)
  (ha:a≤7) (hb:b≤7) (hrl:gr < w.heap.size) (h8:8≤kr) (hcx:w.cell? ⟨gr,a,none⟩=some (.slice (some ⟨bx,ox,none⟩) 4 cx)) (hcy:w.cell? ⟨gr,b,none⟩=some (.slice (some ⟨bY,oy,none⟩) 4 cy))
  (hx:Wd w (some ⟨bx,ox,none⟩) xs) (hy:Wd w (some ⟨bY,oy,none⟩) ys) (hx4:xs.length=4) (hy4:ys.length=4) :
  Calls Tryz.prog 61 #[.pointer (some ⟨bp,0,none⟩),.slice (some ⟨gr,0,none⟩) 8 kr,.agg #[.int .i64 8,.int .i64 (d:Int),.int .i64 (a:Int),.int .i64 (b:Int),.int .i64 (c:Int),.int .i64 (n:Int)],.int .i64 0] w fun e w'=>∃ g k,e=.returned (.slice (some ⟨g,0,none⟩) 4 k)∧w.heap.size≤g∧RowI w' g 4 k ([((gs.length + 25:Nat):Int),0,0,0])∧Bld TS w' lo bp (lessG gs xs ys) O∧Stay TS lo w w':=by
 have HX:=hid (And.intro h (And.intro hx hy))
 have lbx:=hx.lt
 clear h hx hy
 have am:=and_seven ha
 have a8:(a:Int) < 8:=by omega
 have b8:(b:Int) < 8:=by omega
 go_enter Tryz.func61,Tryz.ntmps61
 have b_0:=(Below.refl w.heap.size w)
 have s_0:=b_0.size
 have qx_0:=hcx
 clear hcx
 have lt_qx:gr < w.heap.size:=by omega
 have qy_0:=hcy
 clear hcy
 have lt_qy:gr < w.heap.size:=by omega
 go_upto_region 1 with fail
 refine wp_forget1 (w0:=w) (B:=w.heap.size) (b0:=w.heap.size) (t0:=73) (c0:=#[.int .i64 8,.int .i64 (d:Int),.int .i64 (a:Int),.int .i64 (b:Int),.int .i64 (c:Int),.int .i64 (n:Int)]) ?_ ?_ ?_
 (focus exact blkcBy)
 (focus (exact belBy))
 intro w1 q_1 hX1
 have sX1:=hX1.size
 have q_lt:=q_1.lt
 have b_1:=b_0.trans (hX1.mono (by omega))
 have qx_1:=cell_kept qx_0 hX1 (by dsimp only; omega)
 have qy_1:=cell_kept qy_0 hX1 (by dsimp only; omega)
 clear qx_0 qy_0 b_0 lt_qx lt_qy hX1
 have cell_q:=q_1.cell
 have froz_q:=q_1.frozen
 have lt_q:=q_1.lt
 have lt_qx:gr < w1.heap.size:=(by omega)
 have lt_qy:gr < w1.heap.size:=(by omega)
 have H1:=hid (And.intro (HX.out.1.below b_1) (And.intro (HX.out.2.1.below b_1) (And.intro (HX.out.2.2.below b_1) (Stay.of_below (T:=TS) (lo:=lo) b_1))))
 have Q1:=hid q_1
 have ob:=hid b_1
 have z1:=b_1.size
 clear b_1 q_1 HX
 go_wp2_with fail
 refine Calls.mono (sLess _ H1.out.1 hl H1.out.2.1 H1.out.2.2.1 hx4 hy4) ?_
 rintro e w5 ⟨rfl,k1,k2⟩
 have z5:=k2.size
 obtain ⟨GL,hGL⟩:∃ l,(lessG gs xs ys)=l:=⟨_,rfl⟩
 rw [hGL] at k1
 obtain ⟨Z,hZ⟩:∃ l,(((gs.length + 25:Nat):Int))=l:=⟨_,rfl⟩
 rw [hZ]
 have HGL:=hid (And.intro hGL hZ)
 have HF:=hid (And.intro k1 (H1.out.2.2.2.trans k2))
 clear k1 k2 hGL hZ H1
 go_wp2
 go_returns
 have k3:RowI (w5.alloc (.cells #[.int .i64 Z,.int .i64 0,.int .i64 0,.int .i64 0] 3)) w5.heap.size 4 4 [Z,0,0,0]:=Row.new #[.int .i64 Z,.int .i64 0,.int .i64 0,.int .i64 0] (by decide) rfl rfl
 have hb:=(Below.refl w5.heap.size w5).alloc (Nat.le_refl _) (.cells #[.int .i64 Z,.int .i64 0,.int .i64 0,.int .i64 0] 3)
 refine ⟨w5.heap.size,4,rfl,by omega,?_,?_,HF.out.2.past hb⟩
 ·rw [HGL.out.2]; exact k3
 ·rw [HGL.out.1]; exact HF.out.1.below hb
set_option linter.unusedVariables false in
set_option maxRecDepth 100000 in
set_option maxHeartbeats 1600000 in
theorem sComp9 {lo bp gr kr d a b c n bx ox cx bY oy cy:Nat} {gs:List Gt} {O:Value} {xs ys:List Int} (w:World) (h:Bld TS w lo bp gs O) (hl:gs.length≤5000)
  (ha:a≤7) (hb:b≤7) (hrl:gr < w.heap.size) (h8:8≤kr) (hcx:w.cell? ⟨gr,a,none⟩=some (.slice (some ⟨bx,ox,none⟩) 4 cx)) (hcy:w.cell? ⟨gr,b,none⟩=some (.slice (some ⟨bY,oy,none⟩) 4 cy))
  (hx:Wd w (some ⟨bx,ox,none⟩) xs) (hy:Wd w (some ⟨bY,oy,none⟩) ys) (hx4:xs.length=4) (hy4:ys.length=4) :
  Calls Tryz.prog 61 #[.pointer (some ⟨bp,0,none⟩),.slice (some ⟨gr,0,none⟩) 8 kr,.agg #[.int .i64 9,.int .i64 (d:Int),.int .i64 (a:Int),.int .i64 (b:Int),.int .i64 (c:Int),.int .i64 (n:Int)],.int .i64 0] w fun e w'=>∃ g k,e=.returned (.slice (some ⟨g,0,none⟩) 4 k)∧w.heap.size≤g∧RowI w' g 4 k ([((gs.length + 10:Nat):Int),0,0,0])∧Bld TS w' lo bp (eqG gs xs ys) O∧Stay TS lo w w':=by
 have HX:=hid (And.intro h (And.intro hx hy))
 have lbx:=hx.lt
 clear h hx hy
 have am:=and_seven ha
 have a8:(a:Int) < 8:=by omega
 have b8:(b:Int) < 8:=by omega
 go_enter Tryz.func61,Tryz.ntmps61
 have b_0:=(Below.refl w.heap.size w)
 have s_0:=b_0.size
 have qx_0:=hcx
 clear hcx
 have lt_qx:gr < w.heap.size:=by omega
 have qy_0:=hcy
 clear hcy
 have lt_qy:gr < w.heap.size:=by omega
 go_upto_region 1 with fail
 refine wp_forget1 (w0:=w) (B:=w.heap.size) (b0:=w.heap.size) (t0:=73) (c0:=#[.int .i64 9,.int .i64 (d:Int),.int .i64 (a:Int),.int .i64 (b:Int),.int .i64 (c:Int),.int .i64 (n:Int)]) ?_ ?_ ?_
 (focus exact blkcBy)
 (focus (exact belBy))
 intro w1 q_1 hX1
 have sX1:=hX1.size
 have q_lt:=q_1.lt
 have b_1:=b_0.trans (hX1.mono (by omega))
 have qx_1:=cell_kept qx_0 hX1 (by dsimp only; omega)
 have qy_1:=cell_kept qy_0 hX1 (by dsimp only; omega)
 clear qx_0 qy_0 b_0 lt_qx lt_qy hX1
 have cell_q:=q_1.cell
 have froz_q:=q_1.frozen
 have lt_q:=q_1.lt
 have lt_qx:gr < w1.heap.size:=(by omega)
 have lt_qy:gr < w1.heap.size:=(by omega)
 have H1:=hid (And.intro (HX.out.1.below b_1) (And.intro (HX.out.2.1.below b_1) (And.intro (HX.out.2.2.below b_1) (Stay.of_below (T:=TS) (lo:=lo) b_1))))
 have Q1:=hid q_1
 have ob:=hid b_1
 have z1:=b_1.size
 clear b_1 q_1 HX
 go_wp2_with fail
 refine Calls.mono (sEqual _ H1.out.1 hl H1.out.2.1 H1.out.2.2.1 hx4 hy4) ?_
 rintro e w5 ⟨rfl,k1,k2⟩
 have z5:=k2.size
 obtain ⟨GL,hGL⟩:∃ l,(eqG gs xs ys)=l:=⟨_,rfl⟩
 rw [hGL] at k1
 obtain ⟨Z,hZ⟩:∃ l,(((gs.length + 10:Nat):Int))=l:=⟨_,rfl⟩
 rw [hZ]
 have HGL:=hid (And.intro hGL hZ)
 have HF:=hid (And.intro k1 (H1.out.2.2.2.trans k2))
 clear k1 k2 hGL hZ H1
 go_wp2
 go_returns
 have k3:RowI (w5.alloc (.cells #[.int .i64 Z,.int .i64 0,.int .i64 0,.int .i64 0] 3)) w5.heap.size 4 4 [Z,0,0,0]:=Row.new #[.int .i64 Z,.int .i64 0,.int .i64 0,.int .i64 0] (by decide) rfl rfl
 have hb:=(Below.refl w5.heap.size w5).alloc (Nat.le_refl _) (.cells #[.int .i64 Z,.int .i64 0,.int .i64 0,.int .i64 0] 3)
 refine ⟨w5.heap.size,4,rfl,by omega,?_,?_,HF.out.2.past hb⟩
 ·rw [HGL.out.2]; exact k3
 ·rw [HGL.out.1]; exact HF.out.1.below hb
set_option linter.unusedVariables false in
set_option maxRecDepth 100000 in
set_option maxHeartbeats 1600000 in
theorem sComp10 {lo bp gr kr d a b c n bx ox cx bY oy cy:Nat} {gs:List Gt} {O:Value} {xs ys:List Int} (w:World) (h:Bld TS w lo bp gs O) (hl:gs.length≤5000)
  (ha:a≤7) (hb:b≤7) (hrl:gr < w.heap.size) (h8:8≤kr) (hcx:w.cell? ⟨gr,a,none⟩=some (.slice (some ⟨bx,ox,none⟩) 4 cx)) (hcy:w.cell? ⟨gr,b,none⟩=some (.slice (some ⟨bY,oy,none⟩) 4 cy))
  (hx:Wd w (some ⟨bx,ox,none⟩) xs) (hy:Wd w (some ⟨bY,oy,none⟩) ys) (hx4:xs.length=4) (hy4:ys.length=4) {bz oz cz:Nat} {zs:List Int} {x0:Int} {vals:List Value} (hc:c≤7) (hrow:Row w gr 30 1 8 kr vals) (hvz:vals[c]? = some (.slice (some ⟨bz,oz,none⟩) 4 cz)) (hz:Wd w (some ⟨bz,oz,none⟩) zs) (hz4:zs.length=4) (hx0:xs[0]? = some x0) :
  Calls Tryz.prog 61 #[.pointer (some ⟨bp,0,none⟩),.slice (some ⟨gr,0,none⟩) 8 kr,.agg #[.int .i64 10,.int .i64 (d:Int),.int .i64 (a:Int),.int .i64 (b:Int),.int .i64 (c:Int),.int .i64 (n:Int)],.int .i64 0] w fun e w'=>∃ g k,e=.returned (.slice (some ⟨g,0,none⟩) 4 k)∧w.heap.size≤g∧RowI w' g 4 k (muxW gs.length 4)∧Bld TS w' lo bp (muxTo gs x0 ys zs 4) O∧Stay TS lo w w':=by
 have HZ:=hid (And.intro hz hrow)
 have hcz:=hrow.cell hvz
 clear hz hrow
 have HX:=hid (And.intro h (And.intro hx hy))
 have lbx:=hx.lt
 clear h hx hy
 have am:=and_seven ha
 have a8:(a:Int) < 8:=by omega
 have b8:(b:Int) < 8:=by omega
 go_enter Tryz.func61,Tryz.ntmps61
 have b_0:=(Below.refl w.heap.size w)
 have s_0:=b_0.size
 have qx_0:=hcx
 clear hcx
 have lt_qx:gr < w.heap.size:=by omega
 have qy_0:=hcy
 clear hcy
 have lt_qy:gr < w.heap.size:=by omega
 have qz_0:=hcz
 clear hcz
 have lt_qz:gr < w.heap.size:=by omega
 go_upto_region 1 with fail
 refine wp_forget1 (w0:=w) (B:=w.heap.size) (b0:=w.heap.size) (t0:=73) (c0:=#[.int .i64 10,.int .i64 (d:Int),.int .i64 (a:Int),.int .i64 (b:Int),.int .i64 (c:Int),.int .i64 (n:Int)]) ?_ ?_ ?_
 (focus exact blkcBy)
 (focus (exact belBy))
 intro w1 q_1 hX1
 have sX1:=hX1.size
 have q_lt:=q_1.lt
 have b_1:=b_0.trans (hX1.mono (by omega))
 have qx_1:=cell_kept qx_0 hX1 (by dsimp only; omega)
 have qy_1:=cell_kept qy_0 hX1 (by dsimp only; omega)
 have qz_1:=cell_kept qz_0 hX1 (by dsimp only; omega)
 clear qx_0 qy_0 qz_0 b_0 lt_qx lt_qy lt_qz hX1
 have cell_q:=q_1.cell
 have froz_q:=q_1.frozen
 have lt_q:=q_1.lt
 have lt_qx:gr < w1.heap.size:=(by omega)
 have lt_qy:gr < w1.heap.size:=(by omega)
 have lt_qz:gr < w1.heap.size:=(by omega)
 have H1:=hid (And.intro (HX.out.1.below b_1) (And.intro (HX.out.2.1.below b_1) (And.intro (HX.out.2.2.below b_1) (Stay.of_below (T:=TS) (lo:=lo) b_1))))
 have Q1:=hid q_1
 have ob:=hid b_1
 have z1:=b_1.size
 clear b_1 q_1 HX
 go_upto_region 27 with fail
 have e4:w1.cell? ⟨w.heap.size,4,none⟩=some (.int .i64 (c:Int)):=cell_q 4
 have d0:w1.cell? ⟨bx,ox,none⟩=some (.int .i64 x0):=H1.out.2.1.cell hx0
 have hB1:=H1.out.1
 have hy1:=H1.out.2.2.1
 have hz1:=HZ.out.1.below ob.out
 have lb1:bx < w1.heap.size:=by omega
 have hti:3≠TS:=by decide
 have hzt:30≠TS:=by decide
 have hzg:30≠TG:=by decide
 have hst:73≠TS:=by decide
 have hsg:73≠TG:=by decide
 have c8:(c:Int) < 8:=by omega
 have c0:(0:Int)≤(c:Int):=by omega
 have k0:(0:Int) < 4:=by omega
 have hx1:=H1.out.2.1
 have hr1:=HZ.out.2.below ob.out
 have hq1:=Q1.out
 have HS:=hid H1.out.2.2.2
 clear H1 HZ ob Q1
 go_region_held3 (fun w'=>w'.cell? ⟨w.heap.size,4,none⟩=some (.int .i64 (c:Int))∧w'.cell? ⟨bx,ox,none⟩=some (.int .i64 x0)∧w'.cell? ⟨gr,c,none⟩=some (.slice (some ⟨bz,oz,none⟩) 4 cz)) (first | exact ⟨e4,d0,qz_1⟩ | exact ⟨e4p,d0p,qzp⟩) ((go_at_call 121; refine Calls.mono (sMux x0 _ (Bld.heap hB1 rfl) hl (Wd.heap hy1 rfl) (Wd.heap hz1 rfl) hy4 hz4) ?_; rintro e w5 ⟨g5,k5,rfl,hge,k3,k1,k2⟩; have e4p:=(Stay.blk k2 (Blk.heap hq1 rfl) hst hsg).cell 4; have d0p:=(Wd.onto hx1 k2 rfl hti).cell hx0; have qzp:=(Row.onto hr1 k2 rfl hzt hzg).cell hvz))
 all_goals
  have HF:=hid (And.intro k3 (And.intro k1 (HS.out.onto k2 rfl rfl rfl rfl)))
  have hg5:w.heap.size≤g5:=Nat.le_trans z1 hge
  clear k1 k2 k3 e4p d0p qzp e4 d0 qz_1 hB1 hy1 hz1 hx1 hr1 hq1
  go_wp2
  go_returns
  exact ⟨g5,k5,rfl,hg5,HF.out.1,HF.out.2.1,HF.out.2.2⟩
open Go.RowKit
set_option linter.unusedVariables false in
set_option maxHeartbeats 800000 in
theorem iCompiled {G O:Option Addr} {cg co gr kr k:Nat} {c:Cs} (s:St) (w:World) (hg:w.ownsRow 0 TG 3 (.slice G c.g.length cg) c.g.length (ints (flatG c.g))) (ho:w.ownsRow 0 3 1 (.slice O 0 co) 0 (ints [])) (hr:Regs w gr kr c.r) (h:OkC c k) (hk:k≤120) (hs:Plain s) :
  Calls Tryz.prog 91 #[.agg #[.slice G c.g.length cg,.slice O 0 co],.agg #[.int .i64 s.o,.int .i64 s.d,.int .i64 s.a,.int .i64 s.b,.int .i64 s.c,.int .i64 s.n],.slice (some ⟨gr,0,none⟩) 8 kr,.int .i64 0] w (GivesW w (wordP c.g c.r 0 s).1 (wordP c.g c.r 0 s).2):=by
 have hl:c.g.length≤5000:=by have:=h.hi; omega
 obtain ⟨ea,wa⟩:=h.reg hs.a
 obtain ⟨eb,wb⟩:=h.reg hs.b
 obtain ⟨ec,wc⟩:=h.reg hs.c
 have hop:=hs.op
 have hd:=hs.d
 have ha:=hs.a
 have hb:=hs.b
 have hc:=hs.c
 have hn:=hs.n
 have hi:=hs.inp
 have hrl:=hr.lt
 have h8:=hr.cap
 have hok:=h.g
 clear hs
 obtain ⟨o,d,a,b,e,n⟩:=s
 dsimp only at *
 obtain ⟨d,rfl⟩:=Int.eq_ofNat_of_zero_le hd.1
 obtain ⟨a,rfl⟩:=Int.eq_ofNat_of_zero_le ha.1
 obtain ⟨b,rfl⟩:=Int.eq_ofNat_of_zero_le hb.1
 obtain ⟨e,rfl⟩:=Int.eq_ofNat_of_zero_le hc.1
 obtain ⟨n,rfl⟩:=Int.eq_ofNat_of_zero_le hn.1
 obtain ⟨bx,ox,cx,qx,kx,dx⟩:=hr.at_ ea
 rw [Int.toNat_natCast] at qx
 obtain ⟨bY,oy,cy,qy,ky,dy⟩:=hr.at_ eb
 rw [Int.toNat_natCast] at qy
 obtain ⟨bz,oz,cz,qz,kz,dz⟩:=hr.at_ ec
 rw [Int.toNat_natCast] at qz
 have x4:=word_len wa
 have y4:=word_len wb
 have z4:=word_len wc
 obtain ⟨x0,hx0⟩:∃ x,(regL c.r (a:Int))[0]? = some x:=⟨_,List.getElem?_eq_getElem (by omega)⟩
 have gx0:=getD_at hx0
 have ho10:o=1∨o=2∨o=3∨o=4∨o=5∨o=6∨o=7∨o=8∨o=9∨o=10:=by omega
 unfold wordP
 dsimp only
 rcases ho10 with rfl | rfl | rfl | rfl | rfl | rfl | rfl | rfl | rfl | rfl
 ·rw [if_pos rfl]
  exact iComp1 w hg ho hok hl (by omega) (by omega) hrl h8 qx qy dx dy wa wb kx (by omega)
 ·rw [if_neg (by decide),if_pos rfl]
  exact iComp2 w hg ho hok hl (by omega) (by omega) hrl h8 qx qy dx dy wa wb kx (hi rfl).1 (by have:=hi rfl; omega)
 ·rw [if_neg (by decide),if_neg (by decide),if_pos rfl]
  exact iComp3 w hg ho hok hl (by omega) (by omega) hrl h8 qx qy dx dy wa wb kx
 ·rw [if_neg (by decide),if_neg (by decide),if_neg (by decide),if_pos rfl]
  exact iComp4 w hg ho hok hl (by omega) (by omega) hrl h8 qx qy dx dy wa wb kx
 ·rw [if_neg (by decide),if_neg (by decide),if_neg (by decide),if_neg (by decide),if_pos rfl]
  exact iComp5 w hg ho hok hl (by omega) (by omega) hrl h8 qx qy dx dy wa wb kx
 ·rw [if_neg (by decide),if_neg (by decide),if_neg (by decide),if_neg (by decide),if_neg (by decide),if_pos rfl]
  exact iComp6 w hg ho hok hl (by omega) (by omega) hrl h8 qx qy dx dy wa wb kx
 ·rw [if_neg (by decide),if_neg (by decide),if_neg (by decide),if_neg (by decide),if_neg (by decide),if_neg (by decide),if_pos rfl]
  exact iComp7 w hg ho hok hl (by omega) (by omega) hrl h8 qx qy dx dy wa wb kx
 ·rw [if_neg (by decide),if_neg (by decide),if_neg (by decide),if_neg (by decide),if_neg (by decide),if_neg (by decide),if_neg (by decide),if_pos rfl]
  exact iComp8 w hg ho hok hl (by omega) (by omega) hrl h8 qx qy dx dy wa wb kx
 ·rw [if_neg (by decide),if_neg (by decide),if_neg (by decide),if_neg (by decide),if_neg (by decide),if_neg (by decide),if_neg (by decide),if_neg (by decide),if_pos rfl]
  exact iComp9 w hg ho hok hl (by omega) (by omega) hrl h8 qx qy dx dy wa wb kx
 ·rw [if_neg (by decide),if_neg (by decide),if_neg (by decide),if_neg (by decide),if_neg (by decide),if_neg (by decide),if_neg (by decide),if_neg (by decide),if_neg (by decide)]
  rw [gx0]; exact iComp10 w hg ho hok hl (by omega) (by omega) hrl h8 qx qy dx dy wa wb kx (by omega) qz dz wc hx0
set_option linter.unusedVariables false in
set_option maxHeartbeats 800000 in
theorem sWord {lo bp gr kr k:Nat} {O:Value} {c:Cs} (s:St) (w:World) (hB:Bld TS w lo bp c.g O) (hr:Regs w gr kr c.r) (h:OkC c k) (hk:k≤120) (hs:Plain s) :
  Calls Tryz.prog 61 #[.pointer (some ⟨bp,0,none⟩),.slice (some ⟨gr,0,none⟩) 8 kr,.agg #[.int .i64 s.o,.int .i64 s.d,.int .i64 s.a,.int .i64 s.b,.int .i64 s.c,.int .i64 s.n],.int .i64 0] w fun e w'=>∃ g k,e=.returned (.slice (some ⟨g,0,none⟩) 4 k)∧w.heap.size≤g∧RowI w' g 4 k (wordP c.g c.r 0 s).2∧Bld TS w' lo bp (wordP c.g c.r 0 s).1 O∧Stay TS lo w w':=by
 have hl:c.g.length≤5000:=by have:=h.hi; omega
 obtain ⟨ea,wa⟩:=h.reg hs.a
 obtain ⟨eb,wb⟩:=h.reg hs.b
 obtain ⟨ec,wc⟩:=h.reg hs.c
 have hop:=hs.op
 have hd:=hs.d
 have ha:=hs.a
 have hb:=hs.b
 have hc:=hs.c
 have hn:=hs.n
 have hi:=hs.inp
 have hrl:=hr.lt
 have h8:=hr.cap
 have hok:=h.g
 clear hs
 obtain ⟨o,d,a,b,e,n⟩:=s
 dsimp only at *
 obtain ⟨d,rfl⟩:=Int.eq_ofNat_of_zero_le hd.1
 obtain ⟨a,rfl⟩:=Int.eq_ofNat_of_zero_le ha.1
 obtain ⟨b,rfl⟩:=Int.eq_ofNat_of_zero_le hb.1
 obtain ⟨e,rfl⟩:=Int.eq_ofNat_of_zero_le hc.1
 obtain ⟨n,rfl⟩:=Int.eq_ofNat_of_zero_le hn.1
 obtain ⟨vals,hrow,hvals⟩:=hr
 obtain ⟨bx,ox,cx,vx,kx,dx⟩:=hvals _ _ ea
 have qx:=hrow.cell vx
 rw [Int.toNat_natCast] at qx vx
 obtain ⟨bY,oy,cy,vy,ky,dy⟩:=hvals _ _ eb
 have qy:=hrow.cell vy
 rw [Int.toNat_natCast] at qy vy
 obtain ⟨bz,oz,cz,vz,kz,dz⟩:=hvals _ _ ec
 have qz:=hrow.cell vz
 rw [Int.toNat_natCast] at qz vz
 have x4:=word_len wa
 have y4:=word_len wb
 have z4:=word_len wc
 obtain ⟨x0,hx0⟩:∃ x,(regL c.r (a:Int))[0]? = some x:=⟨_,List.getElem?_eq_getElem (by omega)⟩
 have gx0:=getD_at hx0
 have ho10:o=1∨o=2∨o=3∨o=4∨o=5∨o=6∨o=7∨o=8∨o=9∨o=10:=by omega
 unfold wordP
 dsimp only
 rcases ho10 with rfl | rfl | rfl | rfl | rfl | rfl | rfl | rfl | rfl | rfl
 ·rw [if_pos rfl]
  exact sComp1 w hB hl (by omega) (by omega) hrl h8 qx qy dx dy x4 y4 (by omega)
 ·rw [if_neg (by decide),if_pos rfl]
  exact sComp2 w hB hl (by omega) (by omega) hrl h8 qx qy dx dy x4 y4 (hi rfl).1 (by have:=hi rfl; omega)
 ·rw [if_neg (by decide),if_neg (by decide),if_pos rfl]
  exact sComp3 w hB hl (by omega) (by omega) hrl h8 qx qy dx dy x4 y4
 ·rw [if_neg (by decide),if_neg (by decide),if_neg (by decide),if_pos rfl]
  exact sComp4 w hB hl (by omega) (by omega) hrl h8 qx qy dx dy x4 y4
 ·rw [if_neg (by decide),if_neg (by decide),if_neg (by decide),if_neg (by decide),if_pos rfl]
  exact sComp5 w hB hl (by omega) (by omega) hrl h8 qx qy dx dy x4 y4
 ·rw [if_neg (by decide),if_neg (by decide),if_neg (by decide),if_neg (by decide),if_neg (by decide),if_pos rfl]
  exact sComp6 w hB hl (by omega) (by omega) hrl h8 qx qy dx dy x4 y4
 ·rw [if_neg (by decide),if_neg (by decide),if_neg (by decide),if_neg (by decide),if_neg (by decide),if_neg (by decide),if_pos rfl]
  exact sComp7 w hB hl (by omega) (by omega) hrl h8 qx qy dx dy x4 y4
 ·rw [if_neg (by decide),if_neg (by decide),if_neg (by decide),if_neg (by decide),if_neg (by decide),if_neg (by decide),if_neg (by decide),if_pos rfl]
  exact sComp8 w hB hl (by omega) (by omega) hrl h8 qx qy dx dy x4 y4
 ·rw [if_neg (by decide),if_neg (by decide),if_neg (by decide),if_neg (by decide),if_neg (by decide),if_neg (by decide),if_neg (by decide),if_neg (by decide),if_pos rfl]
  exact sComp9 w hB hl (by omega) (by omega) hrl h8 qx qy dx dy x4 y4
 ·rw [if_neg (by decide),if_neg (by decide),if_neg (by decide),if_neg (by decide),if_neg (by decide),if_neg (by decide),if_neg (by decide),if_neg (by decide),if_neg (by decide)]
  rw [gx0]; exact sComp10 w hB hl (by omega) (by omega) hrl h8 qx qy dx dy x4 y4 (by omega) hrow vz dz z4 hx0
open Go.RowKit
def RegsV (w:World) (g n c:Nat) (rs:List (List Int)) (v:Value):Prop :=
 ∃ vals:List Value,Row w g 30 1 n c vals∧∀ (j:Nat) (ws:List Int),rs[j]? = some ws→∃ b off k,vals[j]? = some (.slice (some ⟨b,off,none⟩) 4 k)∧4≤k∧(∀ q,v.ownBlock=some q→b≠q)∧Wd w (some ⟨b,off,none⟩) ws
section
variable {w w':World} {g n c:Nat} {rs:List (List Int)} {v v':Value}
theorem RegsV.regs (h:RegsV w g 8 c rs v):Regs w g c rs:=by
 obtain ⟨vals,h1,h2⟩:=h
 refine ⟨vals,h1,fun j ws hj=>?_⟩
 obtain ⟨b,off,k,e,hk,_,hw⟩:=h2 j ws hj
 exact ⟨b,off,k,e,hk,hw⟩
theorem RegsV.at_ (h:RegsV w g n c rs v) {j:Nat} {ws:List Int} (hj:rs[j]? = some ws):∃ b off k,w.cell? ⟨g,j,none⟩=some (.slice (some ⟨b,off,none⟩) 4 k)∧4≤k∧(∀ q,v.ownBlock=some q→b≠q)∧Wd w (some ⟨b,off,none⟩) ws:=by
 obtain ⟨vals,h1,h2⟩:=h
 obtain ⟨b,off,k,e,hk,hq,hw⟩:=h2 j ws hj
 exact ⟨b,off,k,h1.cell e,hk,hq,hw⟩
theorem RegsV.lt (h:RegsV w g n c rs v):g < w.heap.size:=by
 obtain ⟨vals,h1,_⟩:=h
 exact h1.lt
theorem RegsV.cap (h:RegsV w g n c rs v):n≤c:=by
 obtain ⟨vals,h1,_⟩:=h
 exact h1.cap
theorem RegsV.froz (h:RegsV w g n c rs v) (j:Nat):w.frozen? ⟨g,j,none⟩=false:=by
 obtain ⟨vals,h1,_⟩:=h
 exact World.ownsRow.frozenAt h1 j
theorem RegsV.move (h:RegsV w g n c rs v) (hr:∀ vals,Row w g 30 1 n c vals→Row w' g 30 1 n c vals)
  (hw:∀ b off ws,(∀ q,v.ownBlock=some q→b≠q)→Wd w (some ⟨b,off,none⟩) ws→Wd w' (some ⟨b,off,none⟩) ws∧∀ q,v'.ownBlock=some q→b≠q):RegsV w' g n c rs v':=by
 obtain ⟨vals,h1,h2⟩:=h
 refine ⟨vals,hr vals h1,fun j ws hj=>?_⟩
 obtain ⟨b,off,k,e,hk,hq,hx⟩:=h2 j ws hj
 obtain ⟨hx',hq'⟩:=hw b off ws hq hx
 exact ⟨b,off,k,e,hk,hq',hx'⟩
theorem RegsV.below (h:RegsV w g n c rs v) (hb:Below w.heap.size w w'):RegsV w' g n c rs v :=
 h.move (fun _ h=>Row.below h hb) fun _ _ _ hq hx=>⟨hx.below hb,hq⟩
theorem RegsV.heap {X:World} (h:RegsV w g n c rs v) (e:X.heap=w.heap):RegsV X g n c rs v :=
 h.move (fun _ h=>by unfold Row World.ownsRow at h ⊢; rw [e]; exact h) fun _ _ _ hq hx=>⟨hx.heap e,hq⟩
theorem Wd.touch {L:List Nat} {b off:Nat} {xs:List Int} (h:Wd w (some ⟨b,off,none⟩) xs) (t:Touch L w w') (hb:b ∉ L):Wd w' (some ⟨b,off,none⟩) xs:=by
 have hlt:=h.lt
 obtain ⟨b',off',cs,m,e,hh,hc⟩:=h
 injection e with e
 injection e with e1 e2
 subst e1 e2
 exact ⟨b,off,cs,m,rfl,(t.block b hlt hb).trans hh,hc⟩
theorem Wd.not_blk {b off p t:Nat} {xs:List Int} {cs:Array Value} (h:Wd w (some ⟨b,off,none⟩) xs) (hp:Blk w p t cs) (hne:t≠3):b≠p:=by
 obtain ⟨b',off',cs',m,e,hh,hc⟩:=h
 injection e with e
 injection e with e1 e2
 subst e1 e2
 rintro rfl
 unfold Blk at hp
 rw [hp] at hh
 injection hh with hh
 injection hh with _ h2 _
 exact hne h2
theorem Row.not_blk {q e s m k p t:Nat} {xs:List Value} {cs:Array Value} (h:Row w q e s m k xs) (hp:Blk w p t cs) (hne:t≠e):q≠p:=by
 obtain ⟨_,cur,h1,_⟩:=h.parts
 rintro rfl
 unfold Blk at hp
 rw [hp] at h1
 injection h1 with h1
 injection h1 with _ h2 _
 exact hne h2
theorem Row.touch {L:List Nat} {q e s m k:Nat} {xs:List Value} (h:Row w q e s m k xs) (t:Touch L w w') (hq:q ∉ L):Row w' q e s m k xs :=
 own_touch' t h fun p hp=>by
  have:p=q:=(own_here p hp)
  subst this
  exact hq
theorem RegsV.touch {p t:Nat} {cs:Array Value} (h:RegsV w g n c rs v) (tt:Touch [p] w w') (hp:Blk w p t cs) (h1:t≠3) (h2:t≠30):RegsV w' g n c rs v :=
 h.move (fun _ hr=>hr.touch tt (by have:=hr.not_blk hp h2; simp; exact this)) fun _ _ _ hq hx=>⟨hx.touch tt (by have:=hx.not_blk hp h1; simp; exact this),hq⟩
theorem RegsV.grown {q e m k:Nat} {vs:List Value} (h:RegsV w g n c rs (.slice (some ⟨q,0,none⟩) m k)) (hg:w.grownBy w' (some q)) (hr:Row w q e 1 m k vs) (he:e≠30) {q':Nat} (hq:q'=q∨w.heap.size≤q') (m' k':Nat):RegsV w' g n c rs (.slice (some ⟨q',0,none⟩) m' k'):=by
 refine h.move (fun _ hr2=>hr2.grown hg fun e2=>?_) fun b off ws hb hx=>⟨hx.grown hg (hb q rfl),fun p hp=>?_⟩
 ·subst e2
  obtain ⟨_,c1,k1,_⟩:=hr2.parts
  obtain ⟨_,c2,k2,_⟩:=hr.parts
  rw [k1] at k2
  injection k2 with k2
  injection k2 with _ k2 _
  exact he k2.symm
 ·have hp:=own_here p hp
  subst hp
  rcases hq with rfl | hq
  ·exact hb _ rfl
  ·have:=hx.lt
   omega
theorem RegsV.set_ (h:RegsV w g n c rs v) {j:Nat} (hj:j < rs.length) {b off k:Nat} {ws:List Int} (hk:4≤k) (hb:∀ q,v.ownBlock=some q→b≠q) (hw:Wd w (some ⟨b,off,none⟩) ws) :
  RegsV (w.setCell ⟨g,j,none⟩ (.slice (some ⟨b,off,none⟩) 4 k)) g n c (rs.set j ws) v∧w.grownBy (w.setCell ⟨g,j,none⟩ (.slice (some ⟨b,off,none⟩) 4 k)) (some g):=by
 obtain ⟨vals,q1,q2⟩:=h
 have r0:=World.ownsRow.stored (show w.ownsRow 0 30 1 (.slice (some ⟨g,0,none⟩) n c) n vals from q1) j (.slice (some ⟨b,off,none⟩) 4 k)
 refine ⟨⟨vals.set j (.slice (some ⟨b,off,none⟩) 4 k),r0.1,fun i us hi=>?_⟩,r0.2⟩
 rw [List.getElem?_set] at hi
 by_cases e:j=i
 ·subst e
  rw [if_pos rfl,if_pos hj] at hi
  injection hi with hi
  subst hi
  have hv:j < vals.length:=by
   obtain ⟨b',off',k',e',_⟩:=q2 j _ (List.getElem?_eq_getElem hj)
   exact (List.getElem?_eq_some_iff.1 e').1
  refine ⟨b,off,k,by rw [List.getElem?_set,if_pos rfl,if_pos hv],hk,hb,hw.set_ fun b' off' e'=>?_⟩
  injection e' with e'
  injection e' with e1 e2
  subst e1 e2
  exact hw.not_ rfl q1 (by decide)
 ·rw [if_neg e] at hi
  obtain ⟨b',off',k',e',hk',hb',hw'⟩:=q2 i us hi
  refine ⟨b',off',k',by rw [List.getElem?_set,if_neg e]; exact e',hk',hb',hw'.set_ fun b'' off'' e''=>?_⟩
  injection e'' with e''
  injection e'' with e1 e2
  subst e1 e2
  exact hw'.not_ rfl q1 (by decide)
end
def GivesC (w:World) (ok:Bool) (gs:List Gt) (os:List Int) (e:Ending) (w':World):Prop :=
 ∃ G cg O co,e=.returned (.tuple #[.agg #[.slice G gs.length cg,.slice O os.length co],.bool ok])∧w'.ownsRow w.heap.size TG 3 (.slice G gs.length cg) gs.length (ints (flatG gs)) ∧
  w'.ownsRow w.heap.size 3 1 (.slice O os.length co) os.length (ints os)∧Below w.heap.size w w'
theorem own_none {w:World} {base e size:Nat}:w.ownsRow base e size (.slice none 0 0) 0 []:=⟨by simp,.inl ⟨rfl,rfl⟩⟩
theorem comp_no {L:List St} (h:unrB L=false):compL L=⟨[],[],[]⟩:=by unfold compL; rw [h]; rfl
theorem comp_yes {L:List St} (h:unrB L=true):compL L=compC (unrL L):=by unfold compL; rw [h]; rfl
open Go.RowKit
theorem tree_one {L:List St} {s:St} {r:Tr} {j:Nat} (h:L.drop j=(Tr.one s r).flat):L[j]? = some s∧L.drop (j + 1)=r.flat:=by
 have h0:L.drop j=s :: r.flat:=h
 constructor
 ·have h1:(L.drop j)[0]? = some s:=by rw [h0]; rfl
  rw [List.getElem?_drop] at h1
  exact h1
 ·rw [←List.drop_drop,h0]
  rfl
theorem tree_loop {L:List St} {x e:St} {b r:Tr} {j:Nat} (h:L.drop j=(Tr.loop x b e r).flat) :
  L[j]? = some x∧(L.drop (j + 1)).take b.flat.length=b.flat∧L.drop (j + 1 + b.flat.length + 1)=r.flat∧j + 1 + b.flat.length + 1≤L.length:=by
 have h0:L.drop j=x :: (b.flat ++ e :: r.flat):=h
 have h2:L.drop (j + 1)=b.flat ++ e :: r.flat:=by
  rw [←List.drop_drop,h0]
  rfl
 refine ⟨?_,?_,?_,?_⟩
 ·have h1:(L.drop j)[0]? = some x:=by rw [h0]; rfl
  rw [List.getElem?_drop] at h1
  exact h1
 ·rw [h2,List.take_append_of_le_length (Nat.le_refl _),List.take_length]
 ·rw [show j + 1 + b.flat.length + 1=(j + 1) + (b.flat.length + 1) by omega,←List.drop_drop,h2,←List.drop_drop,List.drop_append_of_le_length (Nat.le_refl _),List.drop_length]
  rfl
 ·have h3:(L.drop (j + 1)).length=(b.flat ++ e :: r.flat).length:=by rw [h2]
  rw [List.length_drop,List.length_append,List.length_cons] at h3
  omega
theorem cells_part {w:World} {B b off:Nat} {L:List St} (h:Cells w B (some ⟨b,off,none⟩) (ints (flatS L))) (i m:Nat):Cells w B (some ⟨b,off + i * 6,none⟩) (ints (flatS ((L.drop i).take m))):=fun h0=>by
 rw [ints_length,flatS_length,List.length_take,List.length_drop] at h0
 obtain ⟨b',off',e,hb,hc⟩:=h (by rw [ints_length,flatS_length]; omega)
 injection e with e
 injection e with e1 e2
 subst e1 e2
 refine ⟨b,off + i * 6,rfl,hb,fun k v hv=>?_⟩
 have hk:=(List.getElem?_eq_some_iff.1 hv).1
 rw [ints_length,flatS_length,List.length_take,List.length_drop] at hk
 rw [Nat.add_assoc]
 refine hc _ v ?_
 rw [←flatS_take,←flatS_drop] at hv
 unfold ints at hv ⊢
 rw [List.getElem?_map,List.getElem?_take,if_pos (by omega),List.getElem?_drop] at hv
 rw [List.getElem?_map]
 exact hv
theorem us_small {t:Tr} (h:t.ok=true) (hd:t.dp≤3) (hl:t.flat.length≤40):t.us≤20480:=by
 have h1:=us_le t h
 have h2:8 ^ t.dp≤8 ^ 3:=Nat.pow_le_pow_right (by decide) hd
 have h3:t.flat.length * 8 ^ t.dp≤40 * 8 ^ 3:=Nat.mul_le_mul hl h2
 omega
set_option linter.unusedVariables false in
set_option maxRecDepth 100000 in
set_option maxHeartbeats 3200000 in
theorem iUszT:∀ (m:Nat) (t:Tr),t.sz=m→t.ok=true→t.dp≤3→t.flat.length≤40→∀ (A:Option Addr) (c:Nat) (w:World),Cells w w.heap.size A (ints (flatS t.flat))→t.flat.length≤c →
  Calls Tryz.prog 154 #[.slice A t.flat.length c] w fun e w'=>e=.returned (.int .i64 (t.us:Int))∧Below w.heap.size w w':=by
 intro m
 induction m using Nat.strongRecOn with
 | _ m ih =>
  intro t hm hok hdp hl A c w hc hcap
  have HPR:=hid (fun w hc=>iProgOk A c t.flat w hc (by omega))
  rw [tree_prog hok hdp hl] at HPR
  have hus:=us_small hok hdp hl
  have HC:=hid hc
  have HM:=hid (fun i w hc hi=>iMatching A c t.flat i w hc (by omega) hi)
  obtain ⟨L,hL⟩:∃ L,t.flat=L:=⟨_,rfl⟩
  obtain ⟨U,hU⟩:∃ U,t.us=U:=⟨_,rfl⟩
  rw [hL] at HPR HC HM hcap hl
  rw [hL,hU]
  rw [hU] at hus
  have HL:=hid hL
  clear hc
  go_enter Tryz.func154,Tryz.ntmps154
  have b_0:=(Below.refl w.heap.size w)
  have s_0:=b_0.size
  have hc:=HC.out
  have l_0:=hc
  clear hc
  go_wp2_with fail
  refine calls_forget0 (W:=w) ?_ ?_
  (focus (exact belBy))
  intro X1 hX1
  have sX1:=hX1.size
  refine (HPR.out _ ((cells_below l_0 hX1 (by omega)).more (by omega))).mono ?_
  rintro e w1 ⟨rfl,hb1⟩
  have s1:=hb1.size
  have hT1:=hX1.trans (hb1.mono sX1)
  have b_1:=b_0.trans (hT1.mono (by omega))
  have l_1:=cells_below l_0 hT1 (by omega)
  clear l_0 b_0 hX1 hT1 hb1
  have HB1:=hid b_1
  clear b_1 l_1
  go_wp2_with fail
  go_loopw [3,4,5] (fun n i _ wr=>∃ (j:Nat) (r:Tr) (u:Nat),j≤L.length∧i=.int .i64 j∧n=.int .i64 u∧r.ok=true∧r.dp≤3∧r.sz≤t.sz∧L.drop j=r.flat∧u + r.us=U∧Below w.heap.size w wr) (fun _ i _ _=>L.length - (intOf i).toNat)
  case atStart=>exact ⟨0,t,0,Nat.zero_le _,rfl,rfl,hok,hdp,Nat.le_refl _,hL.symm,by omega,HB1.out⟩
  case round =>
   obtain ⟨j,r,u,hj,rfl,rfl,hrok,hrd,hrs,hr,hu,hb⟩:=hrel
   have zb:=hb.size
   cases r with
   | nil =>
    obtain rfl:j=L.length:=by
     have:=congrArg List.length hr
     rw [List.length_drop] at this
     simp [Tr.flat] at this
     omega
    have HU:=hid (show u=U by simpa [Tr.us] using hu)
    have HB:=hid hb
    clear hb
    go_wp2
    go_ret
    exact ⟨by rw [HU.out]; rfl,HB.out⟩
   | one s r =>
    obtain ⟨hx,hr2⟩:=tree_one hr
    obtain ⟨o,d,a,e,g,n⟩:=s
    obtain ⟨b,off,rfl,hB,d0,_,_,_,_,_⟩:=st_cells HC.out hb hx
    have hlt:=(List.getElem?_eq_some_iff.1 hx).1
    have hlt':(j:Int) < (L.length:Int):=by omega
    simp only [Tr.ok,Bool.and_eq_true,Bool.not_eq_true',beq_eq_false_iff_ne] at hrok
    have e1:(o == 12)=false:=by simpa using hrok.2.1
    have HB:=hid hb
    have HR:=hid (And.intro hrok.2.2.2 hr2)
    have hu2:u + 1 + r.us=U:=by simp only [Tr.us] at hu; omega
    have hd2:r.dp≤3:=hrd
    have hs2:r.sz≤t.sz:=by simp only [Tr.sz] at hrs; omega
    clear hb hx hr hr2 hrok hu hrd hrs
    go_wp2
    go_roundw
    case rel=>exact ⟨j + 1,r,u + 1,by omega,by go_num,by go_num,HR.out.1,hd2,hs2,HR.out.2,hu2,HB.out⟩
    case measure=>simp [intOf]; omega
   | loop x bd y r =>
    obtain ⟨hx,hbf,hr2,hle⟩:=tree_loop hr
    have hmt:=mt_loop (R:=[]) hrok
    rw [List.append_nil,←hr] at hmt
    simp only [Tr.ok,Bool.and_eq_true,beq_iff_eq] at hrok
    obtain ⟨h1,h2,h3,h4,h5,h6⟩:=hrok
    have hn:=stmt_loop h1 h2
    obtain ⟨o,d,a,e,g,n⟩:=x
    obtain rfl:o=12:=h2
    obtain ⟨b,off,rfl,hB,d0,_,_,_,_,d5⟩:=st_cells HC.out hb hx
    have hbz:b < wr.heap.size:=by omega
    have hlt':(j:Int) < (L.length:Int):=by omega
    have hdb:bd.dp≤3:=by simp only [Tr.dp] at hrd; omega
    have hdr:r.dp≤3:=by simp only [Tr.dp] at hrd; omega
    have hsb:bd.sz < m:=by simp only [Tr.sz] at hrs; omega
    have hsr:r.sz≤t.sz:=by simp only [Tr.sz] at hrs; omega
    have hbs:=us_small h3 hdb (by omega)
    obtain ⟨N,rfl⟩:∃ N:Nat,n=N:=⟨n.toNat,by dsimp only at hn; omega⟩
    dsimp only at hn
    have hu2:u + N * bd.us + r.us=U:=by simp only [Tr.us,Int.toNat_natCast] at hu; omega
    have hcx:=cells_part HC.out (j + 1) bd.flat.length
    rw [hbf] at hcx
    have hmul:(N:Int) * (bd.us:Int)=((N * bd.us:Nat):Int):=by simp
    obtain ⟨K,hK⟩:∃ K,bd.flat.length=K:=⟨_,rfl⟩
    have HIH:=hid (fun (x:Later wr)=>ih bd.sz hsb bd rfl h3 hdb (by omega) (some ⟨b,off + (j + 1) * 6,none⟩) (c - (j + 1)) x.val ((hcx.below (hb.trans (x.below.mono zb))).more (by have:=x.below.size; omega)) (by omega))
    have HMM:=HM.out j wr ((HC.out.below hb).more zb) (by omega)
    rw [hK,show K=j + (1 + K) - (j + 1) by omega] at HIH
    rw [hmt,hK] at HMM
    rw [hK] at hle hr2
    have HMM:=hid HMM
    have HR:=hid (And.intro h6 hr2)
    have hNb:N * bd.us≤8 * 20480:=Nat.mul_le_mul (by omega) hbs
    obtain ⟨V,hV⟩:∃ V,bd.us=V:=⟨_,rfl⟩
    rw [hV] at HIH hmul hu2 hNb
    obtain ⟨P,hP⟩:∃ P,N * V=P:=⟨_,rfl⟩
    rw [hP] at hmul hu2 hNb
    have HB:=hid hb
    have q0:=fun (x:Later wr)=>(x.below.cell (p:=⟨b,off + j * 6 + 5,none⟩) hbz).trans d5
    clear hb hx hbf hr hr2 hmt hcx hu hrd hrs h1 h3 h4 h5 h6 hbs hV hK hP ih
    go_wp2_with (go_at_call 185; refine (HMM.out).mono ?_; rintro e w' ⟨rfl,rfl⟩)
    refine wp_region_later (by kernel_rfl) (by kernel_rfl) ?_
    repeat (go_big_quiet_step ((go_at_call 154; exact Calls.later (HIH.out _))))
    refine wpQuiet_nil ?_
    rintro _ ⟨⟨w1,hb1⟩,rfl⟩
    try dsimp only
    have HB2:=hid (HB.out.trans (hb1.mono zb))
    clear q0 hb1
    go_wp2
    go_roundw
    case rel=>exact ⟨j + (1 + K) + 1,r,u + P,by omega,by go_num,by go_num,HR.out.1,hdr,hsr,by rw [show j + (1 + K) + 1=j + 1 + K + 1 by omega]; exact HR.out.2,hu2,HB2.out⟩
    case measure=>simp [intOf]; omega
end Go.Proofs.YtihbaieiempjeaaGreat
