/- Lemmas of the proof: CompI. -/
import Derived.Test.YtihbaieiempjeaaGreatD0
import Derived.Test.YtihbaieiempjeaaGreatD10
import Derived.Deep.RegionHeld3
namespace Go.Proofs.YtihbaieiempjeaaGreat
open Go.RowKit
theorem own_heap {w X:World} {base e size n:Nat} {v:Value} {xs:List Value} (h:w.ownsRow base e size v n xs) (hX:X.heap=w.heap):X.ownsRow base e size v n xs:=by
 unfold World.ownsRow at h ⊢
 rw [hX]
 exact h
theorem cast_gives {w w':World} {A B:List Gt} {z Z:Int} {e:Ending} (h1:A=B) (h2:z=Z) (h:GivesW w B [Z,0,0,0] e w'):GivesW w A [z,0,0,0] e w':=by
 rw [h1,h2]
 exact h
theorem gives_z {w wz X:World} {gs:List Gt} {Z:Int} {G O:Option Addr} {cg co p q:Nat} (h1:wz.ownsRow w.heap.size TG 3 (.slice G gs.length cg) gs.length (ints (flatG gs))) (h2:wz.ownsRow w.heap.size 3 1 (.slice O 0 co) 0 [])
  (h4:Below w.heap.size w wz) {cs:Array Value} (hr:Blk wz p TS cs) (hp:w.heap.size≤p) (ht:Touch [p] wz X) (hq:X.heap.size=q) :
  GivesW w gs [Z,0,0,0] (.returned (.tuple #[.agg #[.slice G gs.length cg,.slice O 0 co],.slice (some ⟨q,0,none⟩) 4 4])) (X.alloc (.cells #[.int .i64 Z,.int .i64 0,.int .i64 0,.int .i64 0] 3)):=by
 subst hq
 have hm:∀ q,q≠p→q ∉ [p]:=fun q h=>by simp [h]
 have hB:=ht.below' h4 (fun i hi=>by simp at hi; omega) h4.size
 exact ⟨G,cg,O,co,X.heap.size,4,rfl,(own_touch' ht h1 (fun q hq=>hm q (own_ne_obj h1 hr (by decide) q hq))).alloc _,(own_touch' ht h2 (fun q hq=>hm q (own_ne_obj h2 hr (by decide) q hq))).alloc _,hB.size,
  Row.new #[.int .i64 Z,.int .i64 0,.int .i64 0,.int .i64 0] (by decide) rfl rfl,hB.alloc hB.size _⟩
set_option linter.unusedVariables false in
set_option maxRecDepth 100000 in
set_option maxHeartbeats 1600000 in
theorem iComp1 {G O:Option Addr} {cg co gr kr d a b c n bx ox cx bY oy cy:Nat} {gs:List Gt} {xs ys:List Int} (w:World) (hg:w.ownsRow 0 TG 3 (.slice G gs.length cg) gs.length (ints (flatG gs))) (ho:w.ownsRow 0 3 1 (.slice O 0 co) 0 (ints [])) (hok:gatesB 0 gs=true) (hl:gs.length≤5000)
  (ha:a≤7) (hb:b≤7) (hrl:gr < w.heap.size) (h8:8≤kr) (hcx:w.cell? ⟨gr,a,none⟩=some (.slice (some ⟨bx,ox,none⟩) 4 cx)) (hcy:w.cell? ⟨gr,b,none⟩=some (.slice (some ⟨bY,oy,none⟩) 4 cy))
  (hx:Wd w (some ⟨bx,ox,none⟩) xs) (hy:Wd w (some ⟨bY,oy,none⟩) ys) (hwx:wordB4 gs.length xs=true) (hwy:wordB4 gs.length ys=true) (hkx:4≤cx) (hn:0≤(n:Int)∧(n:Int)≤15) :
  Calls Tryz.prog 91 #[.agg #[.slice G gs.length cg,.slice O 0 co],.agg #[.int .i64 1,.int .i64 (d:Int),.int .i64 (a:Int),.int .i64 (b:Int),.int .i64 (c:Int),.int .i64 (n:Int)],.slice (some ⟨gr,0,none⟩) 8 kr,.int .i64 0] w (GivesW w (constTo gs n 4) (upW gs.length 4)):=by
 have HX:=hid (And.intro hx hy)
 have ha':(a:Int)≤7:=by omega
 have hb':(b:Int)≤7:=by omega
 clear hx hy
 go_enter Tryz.func91,Tryz.ntmps91
 have b_0:=(Below.refl w.heap.size w)
 have s_0:=b_0.size
 have og_in:=own_in hg
 have og_0:=hg
 clear hg
 have oo_in:=own_in ho
 have oo_0:=ho
 clear ho
 have qx_0:=hcx
 clear hcx
 have lt_qx:gr < w.heap.size:=by omega
 have qy_0:=hcy
 clear hcy
 have lt_qy:gr < w.heap.size:=by omega
 go_upto_region 1 with fail
 refine wp_forget3 (w0:=w) (B:=w.heap.size) (b0:=w.heap.size) (t0:=40) (c0:=#[.slice G gs.length cg,.slice O 0 co]) (b1:=w.heap.size + 1) (t1:=73) (c1:=#[.int .i64 1,.int .i64 (d:Int),.int .i64 (a:Int),.int .i64 (b:Int),.int .i64 (c:Int),.int .i64 (n:Int)]) (b2:=w.heap.size + 2) (t2:=40) (c2:=#[.slice none 0 0,.slice none 0 0]) ?_ ?_ ?_ ?_ ?_
 (focus exact blkcBy)
 (focus exact blkcBy)
 (focus exact blkcBy)
 (focus (exact belBy))
 intro w1 x_1 q_1 r_1 hX1
 have sX1:=hX1.size
 have x_lt:=x_1.lt
 have q_lt:=q_1.lt
 have r_lt:=r_1.lt
 have b_1:=b_0.trans (hX1.mono (by omega))
 have og_1:=own_below og_0 hX1
 have oo_1:=own_below oo_0 hX1
 have qx_1:=cell_kept qx_0 hX1 (by dsimp only; omega)
 have qy_1:=cell_kept qy_0 hX1 (by dsimp only; omega)
 clear og_0 oo_0 qx_0 qy_0 b_0 lt_qx lt_qy hX1
 have cell_x:=x_1.cell
 have froz_x:=x_1.frozen
 have lt_x:=x_1.lt
 have cell_q:=q_1.cell
 have froz_q:=q_1.frozen
 have lt_q:=q_1.lt
 have cell_r:=r_1.cell
 have froz_r:=r_1.frozen
 have lt_r:=r_1.lt
 have lt_qx:gr < w1.heap.size:=(by omega)
 have lt_qy:gr < w1.heap.size:=(by omega)
 have H1:=hid (And.intro og_1 (And.intro oo_1 (And.intro r_1 (And.intro b_1 (And.intro (HX.out.1.below b_1) (HX.out.2.below b_1))))))
 have z1:=b_1.size
 have z2:=r_1.lt
 have am:(a:Int) % 8=(a:Int):=by omega
 have bm:(b:Int) % 8=(b:Int):=by omega
 have a8:(a:Int) < 8:=by omega
 have b8:(b:Int) < 8:=by omega
 clear og_1 oo_1 r_1 b_1 x_1 q_1 HX
 go_wp2_with fail
 refine Calls.mono (iWordConst (n:Int) _ (own_weak H1.out.1 (Nat.zero_le _)) (own_weak H1.out.2.1 (Nat.zero_le _)) hok hl hn) ?_
 rintro e w5 ⟨G5,cg5,O5,co5,g5,k5,rfl,k1,k2,hge,k3,hbb⟩
 have z5:=hbb.size
 have hr:=H1.out.2.2.1.past hbb
 have cell_r:=hr.cell
 have froz_r:=hr.frozen
 have lt_r:=hr.lt
 have HF:=hid (And.intro (own_weak (base':=w.heap.size) k1 z1) (And.intro (own_weak (base':=w.heap.size) k2 z1) (And.intro k3 (And.intro (H1.out.2.2.2.1.trans (hbb.mono z1)) hr))))
 have hg5:w.heap.size≤g5:=by omega
 clear k1 k2 k3 hbb hr
 go_wp2
 ((try simp only [Exit.inBlock,Exit.then]); apply bodyPost_ret0; focus ((try simp only [results,Tryz.results91]); (try go_simp); (try rfl)))
 exact gives_w rfl HF.out.1 HF.out.2.1 HF.out.2.2.1 HF.out.2.2.2.1 hg5 HF.out.2.2.2.2 (by omega) (by exact tchBy)
set_option linter.unusedVariables false in
set_option maxRecDepth 100000 in
set_option maxHeartbeats 1600000 in
theorem iComp2 {G O:Option Addr} {cg co gr kr d a b c n bx ox cx bY oy cy:Nat} {gs:List Gt} {xs ys:List Int} (w:World) (hg:w.ownsRow 0 TG 3 (.slice G gs.length cg) gs.length (ints (flatG gs))) (ho:w.ownsRow 0 3 1 (.slice O 0 co) 0 (ints [])) (hok:gatesB 0 gs=true) (hl:gs.length≤5000)
  (ha:a≤7) (hb:b≤7) (hrl:gr < w.heap.size) (h8:8≤kr) (hcx:w.cell? ⟨gr,a,none⟩=some (.slice (some ⟨bx,ox,none⟩) 4 cx)) (hcy:w.cell? ⟨gr,b,none⟩=some (.slice (some ⟨bY,oy,none⟩) 4 cy))
  (hx:Wd w (some ⟨bx,ox,none⟩) xs) (hy:Wd w (some ⟨bY,oy,none⟩) ys) (hwx:wordB4 gs.length xs=true) (hwy:wordB4 gs.length ys=true) (hkx:4≤cx) (ha4:(a:Int)≤4) (hn:0≤(n:Int)∧(n:Int)≤3) :
  Calls Tryz.prog 91 #[.agg #[.slice G gs.length cg,.slice O 0 co],.agg #[.int .i64 2,.int .i64 (d:Int),.int .i64 (a:Int),.int .i64 (b:Int),.int .i64 (c:Int),.int .i64 (n:Int)],.slice (some ⟨gr,0,none⟩) 8 kr,.int .i64 0] w (GivesW w (inTo gs a n 4) (upW gs.length 4)):=by
 have HX:=hid (And.intro hx hy)
 have ha':(a:Int)≤7:=by omega
 have hb':(b:Int)≤7:=by omega
 clear hx hy
 go_enter Tryz.func91,Tryz.ntmps91
 have b_0:=(Below.refl w.heap.size w)
 have s_0:=b_0.size
 have og_in:=own_in hg
 have og_0:=hg
 clear hg
 have oo_in:=own_in ho
 have oo_0:=ho
 clear ho
 have qx_0:=hcx
 clear hcx
 have lt_qx:gr < w.heap.size:=by omega
 have qy_0:=hcy
 clear hcy
 have lt_qy:gr < w.heap.size:=by omega
 go_upto_region 1 with fail
 refine wp_forget3 (w0:=w) (B:=w.heap.size) (b0:=w.heap.size) (t0:=40) (c0:=#[.slice G gs.length cg,.slice O 0 co]) (b1:=w.heap.size + 1) (t1:=73) (c1:=#[.int .i64 2,.int .i64 (d:Int),.int .i64 (a:Int),.int .i64 (b:Int),.int .i64 (c:Int),.int .i64 (n:Int)]) (b2:=w.heap.size + 2) (t2:=40) (c2:=#[.slice none 0 0,.slice none 0 0]) ?_ ?_ ?_ ?_ ?_
 (focus exact blkcBy)
 (focus exact blkcBy)
 (focus exact blkcBy)
 (focus (exact belBy))
 intro w1 x_1 q_1 r_1 hX1
 have sX1:=hX1.size
 have x_lt:=x_1.lt
 have q_lt:=q_1.lt
 have r_lt:=r_1.lt
 have b_1:=b_0.trans (hX1.mono (by omega))
 have og_1:=own_below og_0 hX1
 have oo_1:=own_below oo_0 hX1
 have qx_1:=cell_kept qx_0 hX1 (by dsimp only; omega)
 have qy_1:=cell_kept qy_0 hX1 (by dsimp only; omega)
 clear og_0 oo_0 qx_0 qy_0 b_0 lt_qx lt_qy hX1
 have cell_x:=x_1.cell
 have froz_x:=x_1.frozen
 have lt_x:=x_1.lt
 have cell_q:=q_1.cell
 have froz_q:=q_1.frozen
 have lt_q:=q_1.lt
 have cell_r:=r_1.cell
 have froz_r:=r_1.frozen
 have lt_r:=r_1.lt
 have lt_qx:gr < w1.heap.size:=(by omega)
 have lt_qy:gr < w1.heap.size:=(by omega)
 have H1:=hid (And.intro og_1 (And.intro oo_1 (And.intro r_1 (And.intro b_1 (And.intro (HX.out.1.below b_1) (HX.out.2.below b_1))))))
 have z1:=b_1.size
 have z2:=r_1.lt
 have am:(a:Int) % 8=(a:Int):=by omega
 have bm:(b:Int) % 8=(b:Int):=by omega
 have a8:(a:Int) < 8:=by omega
 have b8:(b:Int) < 8:=by omega
 clear og_1 oo_1 r_1 b_1 x_1 q_1 HX
 go_wp2_with fail
 refine Calls.mono (iInputWord (a:Int) (n:Int) _ (own_weak H1.out.1 (Nat.zero_le _)) (own_weak H1.out.2.1 (Nat.zero_le _)) hl (by omega) hn) ?_
 rintro e w5 ⟨G5,cg5,O5,co5,g5,k5,rfl,k1,k2,hge,k3,hbb⟩
 have z5:=hbb.size
 have hr:=H1.out.2.2.1.past hbb
 have cell_r:=hr.cell
 have froz_r:=hr.frozen
 have lt_r:=hr.lt
 have HF:=hid (And.intro (own_weak (base':=w.heap.size) k1 z1) (And.intro (own_weak (base':=w.heap.size) k2 z1) (And.intro k3 (And.intro (H1.out.2.2.2.1.trans (hbb.mono z1)) hr))))
 have hg5:w.heap.size≤g5:=by omega
 clear k1 k2 k3 hbb hr
 go_wp2
 ((try simp only [Exit.inBlock,Exit.then]); apply bodyPost_ret0; focus ((try simp only [results,Tryz.results91]); (try go_simp); (try rfl)))
 exact gives_w rfl HF.out.1 HF.out.2.1 HF.out.2.2.1 HF.out.2.2.2.1 hg5 HF.out.2.2.2.2 (by omega) (by exact tchBy)
set_option linter.unusedVariables false in
set_option maxRecDepth 100000 in
set_option maxHeartbeats 1600000 in
theorem iComp3 {G O:Option Addr} {cg co gr kr d a b c n bx ox cx bY oy cy:Nat} {gs:List Gt} {xs ys:List Int} (w:World) (hg:w.ownsRow 0 TG 3 (.slice G gs.length cg) gs.length (ints (flatG gs))) (ho:w.ownsRow 0 3 1 (.slice O 0 co) 0 (ints [])) (hok:gatesB 0 gs=true) (hl:gs.length≤5000)
  (ha:a≤7) (hb:b≤7) (hrl:gr < w.heap.size) (h8:8≤kr) (hcx:w.cell? ⟨gr,a,none⟩=some (.slice (some ⟨bx,ox,none⟩) 4 cx)) (hcy:w.cell? ⟨gr,b,none⟩=some (.slice (some ⟨bY,oy,none⟩) 4 cy))
  (hx:Wd w (some ⟨bx,ox,none⟩) xs) (hy:Wd w (some ⟨bY,oy,none⟩) ys) (hwx:wordB4 gs.length xs=true) (hwy:wordB4 gs.length ys=true) (hkx:4≤cx) :
  Calls Tryz.prog 91 #[.agg #[.slice G gs.length cg,.slice O 0 co],.agg #[.int .i64 3,.int .i64 (d:Int),.int .i64 (a:Int),.int .i64 (b:Int),.int .i64 (c:Int),.int .i64 (n:Int)],.slice (some ⟨gr,0,none⟩) 8 kr,.int .i64 0] w (GivesW w (sumG gs xs ys 0 3) (sumW gs.length 3)):=by
 have HX:=hid (And.intro hx hy)
 have ha':(a:Int)≤7:=by omega
 have hb':(b:Int)≤7:=by omega
 clear hx hy
 go_enter Tryz.func91,Tryz.ntmps91
 have b_0:=(Below.refl w.heap.size w)
 have s_0:=b_0.size
 have og_in:=own_in hg
 have og_0:=hg
 clear hg
 have oo_in:=own_in ho
 have oo_0:=ho
 clear ho
 have qx_0:=hcx
 clear hcx
 have lt_qx:gr < w.heap.size:=by omega
 have qy_0:=hcy
 clear hcy
 have lt_qy:gr < w.heap.size:=by omega
 go_upto_region 1 with fail
 refine wp_forget3 (w0:=w) (B:=w.heap.size) (b0:=w.heap.size) (t0:=40) (c0:=#[.slice G gs.length cg,.slice O 0 co]) (b1:=w.heap.size + 1) (t1:=73) (c1:=#[.int .i64 3,.int .i64 (d:Int),.int .i64 (a:Int),.int .i64 (b:Int),.int .i64 (c:Int),.int .i64 (n:Int)]) (b2:=w.heap.size + 2) (t2:=40) (c2:=#[.slice none 0 0,.slice none 0 0]) ?_ ?_ ?_ ?_ ?_
 (focus exact blkcBy)
 (focus exact blkcBy)
 (focus exact blkcBy)
 (focus (exact belBy))
 intro w1 x_1 q_1 r_1 hX1
 have sX1:=hX1.size
 have x_lt:=x_1.lt
 have q_lt:=q_1.lt
 have r_lt:=r_1.lt
 have b_1:=b_0.trans (hX1.mono (by omega))
 have og_1:=own_below og_0 hX1
 have oo_1:=own_below oo_0 hX1
 have qx_1:=cell_kept qx_0 hX1 (by dsimp only; omega)
 have qy_1:=cell_kept qy_0 hX1 (by dsimp only; omega)
 clear og_0 oo_0 qx_0 qy_0 b_0 lt_qx lt_qy hX1
 have cell_x:=x_1.cell
 have froz_x:=x_1.frozen
 have lt_x:=x_1.lt
 have cell_q:=q_1.cell
 have froz_q:=q_1.frozen
 have lt_q:=q_1.lt
 have cell_r:=r_1.cell
 have froz_r:=r_1.frozen
 have lt_r:=r_1.lt
 have lt_qx:gr < w1.heap.size:=(by omega)
 have lt_qy:gr < w1.heap.size:=(by omega)
 have H1:=hid (And.intro og_1 (And.intro oo_1 (And.intro r_1 (And.intro b_1 (And.intro (HX.out.1.below b_1) (HX.out.2.below b_1))))))
 have z1:=b_1.size
 have z2:=r_1.lt
 have am:(a:Int) % 8=(a:Int):=by omega
 have bm:(b:Int) % 8=(b:Int):=by omega
 have a8:(a:Int) < 8:=by omega
 have b8:(b:Int) < 8:=by omega
 clear og_1 oo_1 r_1 b_1 x_1 q_1 HX
 go_wp2_with fail
 refine Calls.mono (iWordAdd _ (own_weak H1.out.1 (Nat.zero_le _)) (own_weak H1.out.2.1 (Nat.zero_le _)) hok hl H1.out.2.2.2.2.1 H1.out.2.2.2.2.2 hwx hwy hkx) ?_
 rintro e w5 ⟨G5,cg5,O5,co5,g5,k5,rfl,k1,k2,hge,k3,hbb⟩
 have z5:=hbb.size
 have hr:=H1.out.2.2.1.past hbb
 have cell_r:=hr.cell
 have froz_r:=hr.frozen
 have lt_r:=hr.lt
 have HF:=hid (And.intro (own_weak (base':=w.heap.size) k1 z1) (And.intro (own_weak (base':=w.heap.size) k2 z1) (And.intro k3 (And.intro (H1.out.2.2.2.1.trans (hbb.mono z1)) hr))))
 have hg5:w.heap.size≤g5:=by omega
 clear k1 k2 k3 hbb hr
 go_wp2
 ((try simp only [Exit.inBlock,Exit.then]); apply bodyPost_ret0; focus ((try simp only [results,Tryz.results91]); (try go_simp); (try rfl)))
 exact gives_w rfl HF.out.1 HF.out.2.1 HF.out.2.2.1 HF.out.2.2.2.1 hg5 HF.out.2.2.2.2 (by omega) (by exact tchBy)
set_option linter.unusedVariables false in
set_option maxRecDepth 100000 in
set_option maxHeartbeats 1600000 in
theorem iComp4 {G O:Option Addr} {cg co gr kr d a b c n bx ox cx bY oy cy:Nat} {gs:List Gt} {xs ys:List Int} (w:World) (hg:w.ownsRow 0 TG 3 (.slice G gs.length cg) gs.length (ints (flatG gs))) (ho:w.ownsRow 0 3 1 (.slice O 0 co) 0 (ints [])) (hok:gatesB 0 gs=true) (hl:gs.length≤5000)
  (ha:a≤7) (hb:b≤7) (hrl:gr < w.heap.size) (h8:8≤kr) (hcx:w.cell? ⟨gr,a,none⟩=some (.slice (some ⟨bx,ox,none⟩) 4 cx)) (hcy:w.cell? ⟨gr,b,none⟩=some (.slice (some ⟨bY,oy,none⟩) 4 cy))
  (hx:Wd w (some ⟨bx,ox,none⟩) xs) (hy:Wd w (some ⟨bY,oy,none⟩) ys) (hwx:wordB4 gs.length xs=true) (hwy:wordB4 gs.length ys=true) (hkx:4≤cx) :
  Calls Tryz.prog 91 #[.agg #[.slice G gs.length cg,.slice O 0 co],.agg #[.int .i64 4,.int .i64 (d:Int),.int .i64 (a:Int),.int .i64 (b:Int),.int .i64 (c:Int),.int .i64 (n:Int)],.slice (some ⟨gr,0,none⟩) 8 kr,.int .i64 0] w (GivesW w (sumG (notsG gs ys) xs (upW gs.length 4) 1 3) (sumW (gs.length + 4) 3)):=by
 have HX:=hid (And.intro hx hy)
 have ha':(a:Int)≤7:=by omega
 have hb':(b:Int)≤7:=by omega
 clear hx hy
 go_enter Tryz.func91,Tryz.ntmps91
 have b_0:=(Below.refl w.heap.size w)
 have s_0:=b_0.size
 have og_in:=own_in hg
 have og_0:=hg
 clear hg
 have oo_in:=own_in ho
 have oo_0:=ho
 clear ho
 have qx_0:=hcx
 clear hcx
 have lt_qx:gr < w.heap.size:=by omega
 have qy_0:=hcy
 clear hcy
 have lt_qy:gr < w.heap.size:=by omega
 go_upto_region 1 with fail
 refine wp_forget3 (w0:=w) (B:=w.heap.size) (b0:=w.heap.size) (t0:=40) (c0:=#[.slice G gs.length cg,.slice O 0 co]) (b1:=w.heap.size + 1) (t1:=73) (c1:=#[.int .i64 4,.int .i64 (d:Int),.int .i64 (a:Int),.int .i64 (b:Int),.int .i64 (c:Int),.int .i64 (n:Int)]) (b2:=w.heap.size + 2) (t2:=40) (c2:=#[.slice none 0 0,.slice none 0 0]) ?_ ?_ ?_ ?_ ?_
 (focus exact blkcBy)
 (focus exact blkcBy)
 (focus exact blkcBy)
 (focus (exact belBy))
 intro w1 x_1 q_1 r_1 hX1
 have sX1:=hX1.size
 have x_lt:=x_1.lt
 have q_lt:=q_1.lt
 have r_lt:=r_1.lt
 have b_1:=b_0.trans (hX1.mono (by omega))
 have og_1:=own_below og_0 hX1
 have oo_1:=own_below oo_0 hX1
 have qx_1:=cell_kept qx_0 hX1 (by dsimp only; omega)
 have qy_1:=cell_kept qy_0 hX1 (by dsimp only; omega)
 clear og_0 oo_0 qx_0 qy_0 b_0 lt_qx lt_qy hX1
 have cell_x:=x_1.cell
 have froz_x:=x_1.frozen
 have lt_x:=x_1.lt
 have cell_q:=q_1.cell
 have froz_q:=q_1.frozen
 have lt_q:=q_1.lt
 have cell_r:=r_1.cell
 have froz_r:=r_1.frozen
 have lt_r:=r_1.lt
 have lt_qx:gr < w1.heap.size:=(by omega)
 have lt_qy:gr < w1.heap.size:=(by omega)
 have H1:=hid (And.intro og_1 (And.intro oo_1 (And.intro r_1 (And.intro b_1 (And.intro (HX.out.1.below b_1) (HX.out.2.below b_1))))))
 have z1:=b_1.size
 have z2:=r_1.lt
 have am:(a:Int) % 8=(a:Int):=by omega
 have bm:(b:Int) % 8=(b:Int):=by omega
 have a8:(a:Int) < 8:=by omega
 have b8:(b:Int) < 8:=by omega
 clear og_1 oo_1 r_1 b_1 x_1 q_1 HX
 go_wp2_with fail
 refine Calls.mono (iWordSub _ (own_weak H1.out.1 (Nat.zero_le _)) (own_weak H1.out.2.1 (Nat.zero_le _)) hok hl H1.out.2.2.2.2.1 H1.out.2.2.2.2.2 hwx hwy hkx) ?_
 rintro e w5 ⟨G5,cg5,O5,co5,g5,k5,rfl,k1,k2,hge,k3,hbb⟩
 have z5:=hbb.size
 have hr:=H1.out.2.2.1.past hbb
 have cell_r:=hr.cell
 have froz_r:=hr.frozen
 have lt_r:=hr.lt
 have HF:=hid (And.intro (own_weak (base':=w.heap.size) k1 z1) (And.intro (own_weak (base':=w.heap.size) k2 z1) (And.intro k3 (And.intro (H1.out.2.2.2.1.trans (hbb.mono z1)) hr))))
 have hg5:w.heap.size≤g5:=by omega
 clear k1 k2 k3 hbb hr
 go_wp2
 ((try simp only [Exit.inBlock,Exit.then]); apply bodyPost_ret0; focus ((try simp only [results,Tryz.results91]); (try go_simp); (try rfl)))
 exact gives_w rfl HF.out.1 HF.out.2.1 HF.out.2.2.1 HF.out.2.2.2.1 hg5 HF.out.2.2.2.2 (by omega) (by exact tchBy)
set_option linter.unusedVariables false in
set_option maxRecDepth 100000 in
set_option maxHeartbeats 1600000 in
theorem iComp5 {G O:Option Addr} {cg co gr kr d a b c n bx ox cx bY oy cy:Nat} {gs:List Gt} {xs ys:List Int} (w:World) (hg:w.ownsRow 0 TG 3 (.slice G gs.length cg) gs.length (ints (flatG gs))) (ho:w.ownsRow 0 3 1 (.slice O 0 co) 0 (ints [])) (hok:gatesB 0 gs=true) (hl:gs.length≤5000)
  (ha:a≤7) (hb:b≤7) (hrl:gr < w.heap.size) (h8:8≤kr) (hcx:w.cell? ⟨gr,a,none⟩=some (.slice (some ⟨bx,ox,none⟩) 4 cx)) (hcy:w.cell? ⟨gr,b,none⟩=some (.slice (some ⟨bY,oy,none⟩) 4 cy))
  (hx:Wd w (some ⟨bx,ox,none⟩) xs) (hy:Wd w (some ⟨bY,oy,none⟩) ys) (hwx:wordB4 gs.length xs=true) (hwy:wordB4 gs.length ys=true) (hkx:4≤cx) :
  Calls Tryz.prog 91 #[.agg #[.slice G gs.length cg,.slice O 0 co],.agg #[.int .i64 5,.int .i64 (d:Int),.int .i64 (a:Int),.int .i64 (b:Int),.int .i64 (c:Int),.int .i64 (n:Int)],.slice (some ⟨gr,0,none⟩) 8 kr,.int .i64 0] w (GivesW w ((mulTo gs xs ys 3).1) ((mulTo gs xs ys 3).2)):=by
 have HX:=hid (And.intro hx hy)
 have ha':(a:Int)≤7:=by omega
 have hb':(b:Int)≤7:=by omega
 clear hx hy
 go_enter Tryz.func91,Tryz.ntmps91
 have b_0:=(Below.refl w.heap.size w)
 have s_0:=b_0.size
 have og_in:=own_in hg
 have og_0:=hg
 clear hg
 have oo_in:=own_in ho
 have oo_0:=ho
 clear ho
 have qx_0:=hcx
 clear hcx
 have lt_qx:gr < w.heap.size:=by omega
 have qy_0:=hcy
 clear hcy
 have lt_qy:gr < w.heap.size:=by omega
 go_upto_region 1 with fail
 refine wp_forget3 (w0:=w) (B:=w.heap.size) (b0:=w.heap.size) (t0:=40) (c0:=#[.slice G gs.length cg,.slice O 0 co]) (b1:=w.heap.size + 1) (t1:=73) (c1:=#[.int .i64 5,.int .i64 (d:Int),.int .i64 (a:Int),.int .i64 (b:Int),.int .i64 (c:Int),.int .i64 (n:Int)]) (b2:=w.heap.size + 2) (t2:=40) (c2:=#[.slice none 0 0,.slice none 0 0]) ?_ ?_ ?_ ?_ ?_
 (focus exact blkcBy)
 (focus exact blkcBy)
 (focus exact blkcBy)
 (focus (exact belBy))
 intro w1 x_1 q_1 r_1 hX1
 have sX1:=hX1.size
 have x_lt:=x_1.lt
 have q_lt:=q_1.lt
 have r_lt:=r_1.lt
 have b_1:=b_0.trans (hX1.mono (by omega))
 have og_1:=own_below og_0 hX1
 have oo_1:=own_below oo_0 hX1
 have qx_1:=cell_kept qx_0 hX1 (by dsimp only; omega)
 have qy_1:=cell_kept qy_0 hX1 (by dsimp only; omega)
 clear og_0 oo_0 qx_0 qy_0 b_0 lt_qx lt_qy hX1
 have cell_x:=x_1.cell
 have froz_x:=x_1.frozen
 have lt_x:=x_1.lt
 have cell_q:=q_1.cell
 have froz_q:=q_1.frozen
 have lt_q:=q_1.lt
 have cell_r:=r_1.cell
 have froz_r:=r_1.frozen
 have lt_r:=r_1.lt
 have lt_qx:gr < w1.heap.size:=(by omega)
 have lt_qy:gr < w1.heap.size:=(by omega)
 have H1:=hid (And.intro og_1 (And.intro oo_1 (And.intro r_1 (And.intro b_1 (And.intro (HX.out.1.below b_1) (HX.out.2.below b_1))))))
 have z1:=b_1.size
 have z2:=r_1.lt
 have am:(a:Int) % 8=(a:Int):=by omega
 have bm:(b:Int) % 8=(b:Int):=by omega
 have a8:(a:Int) < 8:=by omega
 have b8:(b:Int) < 8:=by omega
 clear og_1 oo_1 r_1 b_1 x_1 q_1 HX
 go_wp2_with fail
 refine Calls.mono (iWordMul _ (own_weak H1.out.1 (Nat.zero_le _)) (own_weak H1.out.2.1 (Nat.zero_le _)) hok hl H1.out.2.2.2.2.1 H1.out.2.2.2.2.2 hwx hwy) ?_
 rintro e w5 ⟨G5,cg5,O5,co5,g5,k5,rfl,k1,k2,hge,k3,hbb⟩
 have z5:=hbb.size
 have hr:=H1.out.2.2.1.past hbb
 have cell_r:=hr.cell
 have froz_r:=hr.frozen
 have lt_r:=hr.lt
 have HF:=hid (And.intro (own_weak (base':=w.heap.size) k1 z1) (And.intro (own_weak (base':=w.heap.size) k2 z1) (And.intro k3 (And.intro (H1.out.2.2.2.1.trans (hbb.mono z1)) hr))))
 have hg5:w.heap.size≤g5:=by omega
 clear k1 k2 k3 hbb hr
 go_wp2
 ((try simp only [Exit.inBlock,Exit.then]); apply bodyPost_ret0; focus ((try simp only [results,Tryz.results91]); (try go_simp); (try rfl)))
 exact gives_w rfl HF.out.1 HF.out.2.1 HF.out.2.2.1 HF.out.2.2.2.1 hg5 HF.out.2.2.2.2 (by omega) (by exact tchBy)
set_option linter.unusedVariables false in
set_option maxRecDepth 100000 in
set_option maxHeartbeats 1600000 in
theorem iComp6 {G O:Option Addr} {cg co gr kr d a b c n bx ox cx bY oy cy:Nat} {gs:List Gt} {xs ys:List Int} (w:World) (hg:w.ownsRow 0 TG 3 (.slice G gs.length cg) gs.length (ints (flatG gs))) (ho:w.ownsRow 0 3 1 (.slice O 0 co) 0 (ints [])) (hok:gatesB 0 gs=true) (hl:gs.length≤5000)
  (ha:a≤7) (hb:b≤7) (hrl:gr < w.heap.size) (h8:8≤kr) (hcx:w.cell? ⟨gr,a,none⟩=some (.slice (some ⟨bx,ox,none⟩) 4 cx)) (hcy:w.cell? ⟨gr,b,none⟩=some (.slice (some ⟨bY,oy,none⟩) 4 cy))
  (hx:Wd w (some ⟨bx,ox,none⟩) xs) (hy:Wd w (some ⟨bY,oy,none⟩) ys) (hwx:wordB4 gs.length xs=true) (hwy:wordB4 gs.length ys=true) (hkx:4≤cx) :
  Calls Tryz.prog 91 #[.agg #[.slice G gs.length cg,.slice O 0 co],.agg #[.int .i64 6,.int .i64 (d:Int),.int .i64 (a:Int),.int .i64 (b:Int),.int .i64 (c:Int),.int .i64 (n:Int)],.slice (some ⟨gr,0,none⟩) 8 kr,.int .i64 0] w (GivesW w (bitTo gs 4 xs ys 4) (upW gs.length 4)):=by
 have HX:=hid (And.intro hx hy)
 have ha':(a:Int)≤7:=by omega
 have hb':(b:Int)≤7:=by omega
 clear hx hy
 go_enter Tryz.func91,Tryz.ntmps91
 have b_0:=(Below.refl w.heap.size w)
 have s_0:=b_0.size
 have og_in:=own_in hg
 have og_0:=hg
 clear hg
 have oo_in:=own_in ho
 have oo_0:=ho
 clear ho
 have qx_0:=hcx
 clear hcx
 have lt_qx:gr < w.heap.size:=by omega
 have qy_0:=hcy
 clear hcy
 have lt_qy:gr < w.heap.size:=by omega
 go_upto_region 1 with fail
 refine wp_forget3 (w0:=w) (B:=w.heap.size) (b0:=w.heap.size) (t0:=40) (c0:=#[.slice G gs.length cg,.slice O 0 co]) (b1:=w.heap.size + 1) (t1:=73) (c1:=#[.int .i64 6,.int .i64 (d:Int),.int .i64 (a:Int),.int .i64 (b:Int),.int .i64 (c:Int),.int .i64 (n:Int)]) (b2:=w.heap.size + 2) (t2:=40) (c2:=#[.slice none 0 0,.slice none 0 0]) ?_ ?_ ?_ ?_ ?_
 (focus exact blkcBy)
 (focus exact blkcBy)
 (focus exact blkcBy)
 (focus (exact belBy))
 intro w1 x_1 q_1 r_1 hX1
 have sX1:=hX1.size
 have x_lt:=x_1.lt
 have q_lt:=q_1.lt
 have r_lt:=r_1.lt
 have b_1:=b_0.trans (hX1.mono (by omega))
 have og_1:=own_below og_0 hX1
 have oo_1:=own_below oo_0 hX1
 have qx_1:=cell_kept qx_0 hX1 (by dsimp only; omega)
 have qy_1:=cell_kept qy_0 hX1 (by dsimp only; omega)
 clear og_0 oo_0 qx_0 qy_0 b_0 lt_qx lt_qy hX1
 have cell_x:=x_1.cell
 have froz_x:=x_1.frozen
 have lt_x:=x_1.lt
 have cell_q:=q_1.cell
 have froz_q:=q_1.frozen
 have lt_q:=q_1.lt
 have cell_r:=r_1.cell
 have froz_r:=r_1.frozen
 have lt_r:=r_1.lt
 have lt_qx:gr < w1.heap.size:=(by omega)
 have lt_qy:gr < w1.heap.size:=(by omega)
 have H1:=hid (And.intro og_1 (And.intro oo_1 (And.intro r_1 (And.intro b_1 (And.intro (HX.out.1.below b_1) (HX.out.2.below b_1))))))
 have z1:=b_1.size
 have z2:=r_1.lt
 have am:(a:Int) % 8=(a:Int):=by omega
 have bm:(b:Int) % 8=(b:Int):=by omega
 have a8:(a:Int) < 8:=by omega
 have b8:(b:Int) < 8:=by omega
 clear og_1 oo_1 r_1 b_1 x_1 q_1 HX
 go_wp2_with fail
 refine Calls.mono (iBitwise 4 _ (own_weak H1.out.1 (Nat.zero_le _)) (own_weak H1.out.2.1 (Nat.zero_le _)) hl H1.out.2.2.2.2.1 H1.out.2.2.2.2.2 (wordB4_at hwx).1 (wordB4_at hwy).1) ?_
 rintro e w5 ⟨G5,cg5,O5,co5,g5,k5,rfl,k1,k2,hge,k3,hbb⟩
 have z5:=hbb.size
 have hr:=H1.out.2.2.1.past hbb
 have cell_r:=hr.cell
 have froz_r:=hr.frozen
 have lt_r:=hr.lt
 have HF:=hid (And.intro (own_weak (base':=w.heap.size) k1 z1) (And.intro (own_weak (base':=w.heap.size) k2 z1) (And.intro k3 (And.intro (H1.out.2.2.2.1.trans (hbb.mono z1)) hr))))
 have hg5:w.heap.size≤g5:=by omega
 clear k1 k2 k3 hbb hr
 go_wp2
 ((try simp only [Exit.inBlock,Exit.then]); apply bodyPost_ret0; focus ((try simp only [results,Tryz.results91]); (try go_simp); (try rfl)))
 exact gives_w rfl HF.out.1 HF.out.2.1 HF.out.2.2.1 HF.out.2.2.2.1 hg5 HF.out.2.2.2.2 (by omega) (by exact tchBy)
set_option linter.unusedVariables false in
set_option maxRecDepth 100000 in
set_option maxHeartbeats 1600000 in
theorem iComp7 {G O:Option Addr} {cg co gr kr d a b c n bx ox cx bY oy cy:Nat} {gs:List Gt} {xs ys:List Int} (w:World) (hg:w.ownsRow 0 TG 3 (.slice G gs.length cg) gs.length (ints (flatG gs))) (ho:w.ownsRow 0 3 1 (.slice O 0 co) 0 (ints [])) (hok:gatesB 0 gs=true) (hl:gs.length≤5000)
  (ha:a≤7) (hb:b≤7) (hrl:gr < w.heap.size) (h8:8≤kr) (hcx:w.cell? ⟨gr,a,none⟩=some (.slice (some ⟨bx,ox,none⟩) 4 cx)) (hcy:w.cell? ⟨gr,b,none⟩=some (.slice (some ⟨bY,oy,none⟩) 4 cy))
  (hx:Wd w (some ⟨bx,ox,none⟩) xs) (hy:Wd w (some ⟨bY,oy,none⟩) ys) (hwx:wordB4 gs.length xs=true) (hwy:wordB4 gs.length ys=true) (hkx:4≤cx) :
  Calls Tryz.prog 91 #[.agg #[.slice G gs.length cg,.slice O 0 co],.agg #[.int .i64 7,.int .i64 (d:Int),.int .i64 (a:Int),.int .i64 (b:Int),.int .i64 (c:Int),.int .i64 (n:Int)],.slice (some ⟨gr,0,none⟩) 8 kr,.int .i64 0] w (GivesW w (bitTo gs 3 xs ys 4) (upW gs.length 4)):=by
 have HX:=hid (And.intro hx hy)
 have ha':(a:Int)≤7:=by omega
 have hb':(b:Int)≤7:=by omega
 clear hx hy
 go_enter Tryz.func91,Tryz.ntmps91
 have b_0:=(Below.refl w.heap.size w)
 have s_0:=b_0.size
 have og_in:=own_in hg
 have og_0:=hg
 clear hg
 have oo_in:=own_in ho
 have oo_0:=ho
 clear ho
 have qx_0:=hcx
 clear hcx
 have lt_qx:gr < w.heap.size:=by omega
 have qy_0:=hcy
 clear hcy
 have lt_qy:gr < w.heap.size:=by omega
 go_upto_region 1 with fail
 refine wp_forget3 (w0:=w) (B:=w.heap.size) (b0:=w.heap.size) (t0:=40) (c0:=#[.slice G gs.length cg,.slice O 0 co]) (b1:=w.heap.size + 1) (t1:=73) (c1:=#[.int .i64 7,.int .i64 (d:Int),.int .i64 (a:Int),.int .i64 (b:Int),.int .i64 (c:Int),.int .i64 (n:Int)]) (b2:=w.heap.size + 2) (t2:=40) (c2:=#[.slice none 0 0,.slice none 0 0]) ?_ ?_ ?_ ?_ ?_
 (focus exact blkcBy)
 (focus exact blkcBy)
 (focus exact blkcBy)
 (focus (exact belBy))
 intro w1 x_1 q_1 r_1 hX1
 have sX1:=hX1.size
 have x_lt:=x_1.lt
 have q_lt:=q_1.lt
 have r_lt:=r_1.lt
 have b_1:=b_0.trans (hX1.mono (by omega))
 have og_1:=own_below og_0 hX1
 have oo_1:=own_below oo_0 hX1
 have qx_1:=cell_kept qx_0 hX1 (by dsimp only; omega)
 have qy_1:=cell_kept qy_0 hX1 (by dsimp only; omega)
 clear og_0 oo_0 qx_0 qy_0 b_0 lt_qx lt_qy hX1
 have cell_x:=x_1.cell
 have froz_x:=x_1.frozen
 have lt_x:=x_1.lt
 have cell_q:=q_1.cell
 have froz_q:=q_1.frozen
 have lt_q:=q_1.lt
 have cell_r:=r_1.cell
 have froz_r:=r_1.frozen
 have lt_r:=r_1.lt
 have lt_qx:gr < w1.heap.size:=(by omega)
 have lt_qy:gr < w1.heap.size:=(by omega)
 have H1:=hid (And.intro og_1 (And.intro oo_1 (And.intro r_1 (And.intro b_1 (And.intro (HX.out.1.below b_1) (HX.out.2.below b_1))))))
 have z1:=b_1.size
 have z2:=r_1.lt
 have am:(a:Int) % 8=(a:Int):=by omega
 have bm:(b:Int) % 8=(b:Int):=by omega
 have a8:(a:Int) < 8:=by omega
 have b8:(b:Int) < 8:=by omega
 clear og_1 oo_1 r_1 b_1 x_1 q_1 HX
 go_wp2_with fail
 refine Calls.mono (iBitwise 3 _ (own_weak H1.out.1 (Nat.zero_le _)) (own_weak H1.out.2.1 (Nat.zero_le _)) hl H1.out.2.2.2.2.1 H1.out.2.2.2.2.2 (wordB4_at hwx).1 (wordB4_at hwy).1) ?_
 rintro e w5 ⟨G5,cg5,O5,co5,g5,k5,rfl,k1,k2,hge,k3,hbb⟩
 have z5:=hbb.size
 have hr:=H1.out.2.2.1.past hbb
 have cell_r:=hr.cell
 have froz_r:=hr.frozen
 have lt_r:=hr.lt
 have HF:=hid (And.intro (own_weak (base':=w.heap.size) k1 z1) (And.intro (own_weak (base':=w.heap.size) k2 z1) (And.intro k3 (And.intro (H1.out.2.2.2.1.trans (hbb.mono z1)) hr))))
 have hg5:w.heap.size≤g5:=by omega
 clear k1 k2 k3 hbb hr
 go_wp2
 ((try simp only [Exit.inBlock,Exit.then]); apply bodyPost_ret0; focus ((try simp only [results,Tryz.results91]); (try go_simp); (try rfl)))
 exact gives_w rfl HF.out.1 HF.out.2.1 HF.out.2.2.1 HF.out.2.2.2.1 hg5 HF.out.2.2.2.2 (by omega) (by exact tchBy)
set_option linter.unusedVariables false in
set_option maxRecDepth 100000 in
set_option maxHeartbeats 1600000 in
theorem iComp8 {G O:Option Addr} {cg co gr kr d a b c n bx ox cx bY oy cy:Nat} {gs:List Gt} {xs ys:List Int} (w:World) (hg:w.ownsRow 0 TG 3 (.slice G gs.length cg) gs.length (ints (flatG gs))) (ho:w.ownsRow 0 3 1 (.slice O 0 co) 0 (ints [])) (hok:gatesB 0 gs=true) (hl:gs.length≤5000)
  (ha:a≤7) (hb:b≤7) (hrl:gr < w.heap.size) (h8:8≤kr) (hcx:w.cell? ⟨gr,a,none⟩=some (.slice (some ⟨bx,ox,none⟩) 4 cx)) (hcy:w.cell? ⟨gr,b,none⟩=some (.slice (some ⟨bY,oy,none⟩) 4 cy))
  (hx:Wd w (some ⟨bx,ox,none⟩) xs) (hy:Wd w (some ⟨bY,oy,none⟩) ys) (hwx:wordB4 gs.length xs=true) (hwy:wordB4 gs.length ys=true) (hkx:4≤cx) :
  Calls Tryz.prog 91 #[.agg #[.slice G gs.length cg,.slice O 0 co],.agg #[.int .i64 8,.int .i64 (d:Int),.int .i64 (a:Int),.int .i64 (b:Int),.int .i64 (c:Int),.int .i64 (n:Int)],.slice (some ⟨gr,0,none⟩) 8 kr,.int .i64 0] w (GivesW w (lessG gs xs ys) ([((gs.length + 25:Nat):Int),0,0,0])):=by
 have HX:=hid (And.intro hx hy)
 have ha':(a:Int)≤7:=by omega
 have hb':(b:Int)≤7:=by omega
 clear hx hy
 go_enter Tryz.func91,Tryz.ntmps91
 have b_0:=(Below.refl w.heap.size w)
 have s_0:=b_0.size
 have og_in:=own_in hg
 have og_0:=hg
 clear hg
 have oo_in:=own_in ho
 have oo_0:=ho
 clear ho
 have qx_0:=hcx
 clear hcx
 have lt_qx:gr < w.heap.size:=by omega
 have qy_0:=hcy
 clear hcy
 have lt_qy:gr < w.heap.size:=by omega
 go_upto_region 1 with fail
 refine wp_forget3 (w0:=w) (B:=w.heap.size) (b0:=w.heap.size) (t0:=40) (c0:=#[.slice G gs.length cg,.slice O 0 co]) (b1:=w.heap.size + 1) (t1:=73) (c1:=#[.int .i64 8,.int .i64 (d:Int),.int .i64 (a:Int),.int .i64 (b:Int),.int .i64 (c:Int),.int .i64 (n:Int)]) (b2:=w.heap.size + 2) (t2:=40) (c2:=#[.slice none 0 0,.slice none 0 0]) ?_ ?_ ?_ ?_ ?_
 (focus exact blkcBy)
 (focus exact blkcBy)
 (focus exact blkcBy)
 (focus (exact belBy))
 intro w1 x_1 q_1 r_1 hX1
 have sX1:=hX1.size
 have x_lt:=x_1.lt
 have q_lt:=q_1.lt
 have r_lt:=r_1.lt
 have b_1:=b_0.trans (hX1.mono (by omega))
 have og_1:=own_below og_0 hX1
 have oo_1:=own_below oo_0 hX1
 have qx_1:=cell_kept qx_0 hX1 (by dsimp only; omega)
 have qy_1:=cell_kept qy_0 hX1 (by dsimp only; omega)
 clear og_0 oo_0 qx_0 qy_0 b_0 lt_qx lt_qy hX1
 have cell_x:=x_1.cell
 have froz_x:=x_1.frozen
 have lt_x:=x_1.lt
 have cell_q:=q_1.cell
 have froz_q:=q_1.frozen
 have lt_q:=q_1.lt
 have cell_r:=r_1.cell
 have froz_r:=r_1.frozen
 have lt_r:=r_1.lt
 have lt_qx:gr < w1.heap.size:=(by omega)
 have lt_qy:gr < w1.heap.size:=(by omega)
 have H1:=hid (And.intro og_1 (And.intro oo_1 (And.intro r_1 (And.intro b_1 (And.intro (HX.out.1.below b_1) (HX.out.2.below b_1))))))
 have z1:=b_1.size
 have z2:=r_1.lt
 have am:(a:Int) % 8=(a:Int):=by omega
 have bm:(b:Int) % 8=(b:Int):=by omega
 have a8:(a:Int) < 8:=by omega
 have b8:(b:Int) < 8:=by omega
 clear og_1 oo_1 r_1 b_1 x_1 q_1 HX
 go_wp2_with fail
 refine Calls.mono (iWordLess _ (own_weak H1.out.1 (Nat.zero_le _)) (own_weak H1.out.2.1 (Nat.zero_le _)) hok hl H1.out.2.2.2.2.1 H1.out.2.2.2.2.2 hwx hwy) ?_
 rintro e w5 ⟨G5,cg5,O5,co5,rfl,k1,k2,hbb⟩
 have z5:=hbb.size
 have hr:=H1.out.2.2.1.past hbb
 have hb5:=H1.out.2.2.2.1.trans (hbb.mono z1)
 obtain ⟨GL,hGL⟩:∃ l,(lessG gs xs ys)=l:=⟨_,rfl⟩
 rw [hGL] at k1
 obtain ⟨Z,hZ⟩:∃ l,(((gs.length + 25:Nat):Int))=l:=⟨_,rfl⟩
 rw [hGL,hZ]
 have HGL:=hid (And.intro hGL hZ)
 clear hbb hGL hZ H1 cell_r froz_r lt_r og_in oo_in
 go_upto_region 20 with fail
 have b_5:=hb5
 have s_5:=b_5.size
 have og_in:=own_in k1
 have og_5:=k1
 clear k1
 have oo_in:=own_in k2
 have oo_5:=k2
 clear k2
 have r_5:=hr
 clear hr
 have r_lt:=r_5.lt
 have cell_r:=r_5.cell
 have froz_r:=r_5.frozen
 have lt_r:=r_5.lt
 refine wp_forget1 (w0:=w5) (B:=w5.heap.size) (b0:=w5.heap.size) (t0:=40) (c0:=#[.slice G5 GL.length cg5,.slice O5 0 co5]) ?_ ?_ ?_
 (focus exact blkcBy)
 (focus (exact belBy))
 intro w6 y_6 hX6
 have sX6:=hX6.size
 have y_lt:=y_6.lt
 have b_6:=b_5.trans (hX6.mono (by omega))
 have og_6:=own_below og_5 hX6
 have oo_6:=own_below oo_5 hX6
 have r_6:=Blk.past hX6 r_5
 clear og_5 oo_5 r_5 b_5 cell_r froz_r lt_r hX6
 have cell_r:=r_6.cell
 have froz_r:=r_6.frozen
 have lt_r:=r_6.lt
 have cell_y:=y_6.cell
 have froz_y:=y_6.frozen
 have lt_y:=y_6.lt
 have HF:=hid (And.intro (own_weak (base':=w.heap.size) og_6 z1) (And.intro (own_weak (base':=w.heap.size) oo_6 z1) (And.intro b_6 r_6)))
 have z6:=b_6.size
 clear og_6 oo_6 b_6 r_6 og_in oo_in
 go_wp2
 ((try simp only [Exit.inBlock,Exit.then]); apply bodyPost_ret0; focus ((try simp only [results,Tryz.results91]); (try go_simp); (try rfl)))
 exact cast_gives HGL.out.1 HGL.out.2 (gives_z HF.out.1 HF.out.2.1 HF.out.2.2.1 HF.out.2.2.2 (by omega) (by exact tchBy) (by simp))
set_option linter.unusedVariables false in
set_option maxRecDepth 100000 in
set_option maxHeartbeats 1600000 in
theorem iComp9 {G O:Option Addr} {cg co gr kr d a b c n bx ox cx bY oy cy:Nat} {gs:List Gt} {xs ys:List Int} (w:World) (hg:w.ownsRow 0 TG 3 (.slice G gs.length cg) gs.length (ints (flatG gs))) (ho:w.ownsRow 0 3 1 (.slice O 0 co) 0 (ints [])) (hok:gatesB 0 gs=true) (hl:gs.length≤5000)
  (ha:a≤7) (hb:b≤7) (hrl:gr < w.heap.size) (h8:8≤kr) (hcx:w.cell? ⟨gr,a,none⟩=some (.slice (some ⟨bx,ox,none⟩) 4 cx)) (hcy:w.cell? ⟨gr,b,none⟩=some (.slice (some ⟨bY,oy,none⟩) 4 cy))
  (hx:Wd w (some ⟨bx,ox,none⟩) xs) (hy:Wd w (some ⟨bY,oy,none⟩) ys) (hwx:wordB4 gs.length xs=true) (hwy:wordB4 gs.length ys=true) (hkx:4≤cx) :
  Calls Tryz.prog 91 #[.agg #[.slice G gs.length cg,.slice O 0 co],.agg #[.int .i64 9,.int .i64 (d:Int),.int .i64 (a:Int),.int .i64 (b:Int),.int .i64 (c:Int),.int .i64 (n:Int)],.slice (some ⟨gr,0,none⟩) 8 kr,.int .i64 0] w (GivesW w (eqG gs xs ys) ([((gs.length + 10:Nat):Int),0,0,0])):=by
 have HX:=hid (And.intro hx hy)
 have ha':(a:Int)≤7:=by omega
 have hb':(b:Int)≤7:=by omega
 clear hx hy
 go_enter Tryz.func91,Tryz.ntmps91
 have b_0:=(Below.refl w.heap.size w)
 have s_0:=b_0.size
 have og_in:=own_in hg
 have og_0:=hg
 clear hg
 have oo_in:=own_in ho
 have oo_0:=ho
 clear ho
 have qx_0:=hcx
 clear hcx
 have lt_qx:gr < w.heap.size:=by omega
 have qy_0:=hcy
 clear hcy
 have lt_qy:gr < w.heap.size:=by omega
 go_upto_region 1 with fail
 refine wp_forget3 (w0:=w) (B:=w.heap.size) (b0:=w.heap.size) (t0:=40) (c0:=#[.slice G gs.length cg,.slice O 0 co]) (b1:=w.heap.size + 1) (t1:=73) (c1:=#[.int .i64 9,.int .i64 (d:Int),.int .i64 (a:Int),.int .i64 (b:Int),.int .i64 (c:Int),.int .i64 (n:Int)]) (b2:=w.heap.size + 2) (t2:=40) (c2:=#[.slice none 0 0,.slice none 0 0]) ?_ ?_ ?_ ?_ ?_
 (focus exact blkcBy)
 (focus exact blkcBy)
 (focus exact blkcBy)
 (focus (exact belBy))
 intro w1 x_1 q_1 r_1 hX1
 have sX1:=hX1.size
 have x_lt:=x_1.lt
 have q_lt:=q_1.lt
 have r_lt:=r_1.lt
 have b_1:=b_0.trans (hX1.mono (by omega))
 have og_1:=own_below og_0 hX1
 have oo_1:=own_below oo_0 hX1
 have qx_1:=cell_kept qx_0 hX1 (by dsimp only; omega)
 have qy_1:=cell_kept qy_0 hX1 (by dsimp only; omega)
 clear og_0 oo_0 qx_0 qy_0 b_0 lt_qx lt_qy hX1
 have cell_x:=x_1.cell
 have froz_x:=x_1.frozen
 have lt_x:=x_1.lt
 have cell_q:=q_1.cell
 have froz_q:=q_1.frozen
 have lt_q:=q_1.lt
 have cell_r:=r_1.cell
 have froz_r:=r_1.frozen
 have lt_r:=r_1.lt
 have lt_qx:gr < w1.heap.size:=(by omega)
 have lt_qy:gr < w1.heap.size:=(by omega)
 have H1:=hid (And.intro og_1 (And.intro oo_1 (And.intro r_1 (And.intro b_1 (And.intro (HX.out.1.below b_1) (HX.out.2.below b_1))))))
 have z1:=b_1.size
 have z2:=r_1.lt
 have am:(a:Int) % 8=(a:Int):=by omega
 have bm:(b:Int) % 8=(b:Int):=by omega
 have a8:(a:Int) < 8:=by omega
 have b8:(b:Int) < 8:=by omega
 clear og_1 oo_1 r_1 b_1 x_1 q_1 HX
 go_wp2_with fail
 refine Calls.mono (iWordEqual _ (own_weak H1.out.1 (Nat.zero_le _)) (own_weak H1.out.2.1 (Nat.zero_le _)) hok hl H1.out.2.2.2.2.1 H1.out.2.2.2.2.2 hwx hwy) ?_
 rintro e w5 ⟨G5,cg5,O5,co5,rfl,k1,k2,hbb⟩
 have z5:=hbb.size
 have hr:=H1.out.2.2.1.past hbb
 have hb5:=H1.out.2.2.2.1.trans (hbb.mono z1)
 obtain ⟨GL,hGL⟩:∃ l,(eqG gs xs ys)=l:=⟨_,rfl⟩
 rw [hGL] at k1
 obtain ⟨Z,hZ⟩:∃ l,(((gs.length + 10:Nat):Int))=l:=⟨_,rfl⟩
 rw [hGL,hZ]
 have HGL:=hid (And.intro hGL hZ)
 clear hbb hGL hZ H1 cell_r froz_r lt_r og_in oo_in
 go_upto_region 23 with fail
 have b_5:=hb5
 have s_5:=b_5.size
 have og_in:=own_in k1
 have og_5:=k1
 clear k1
 have oo_in:=own_in k2
 have oo_5:=k2
 clear k2
 have r_5:=hr
 clear hr
 have r_lt:=r_5.lt
 have cell_r:=r_5.cell
 have froz_r:=r_5.frozen
 have lt_r:=r_5.lt
 refine wp_forget1 (w0:=w5) (B:=w5.heap.size) (b0:=w5.heap.size) (t0:=40) (c0:=#[.slice G5 GL.length cg5,.slice O5 0 co5]) ?_ ?_ ?_
 (focus exact blkcBy)
 (focus (exact belBy))
 intro w6 y_6 hX6
 have sX6:=hX6.size
 have y_lt:=y_6.lt
 have b_6:=b_5.trans (hX6.mono (by omega))
 have og_6:=own_below og_5 hX6
 have oo_6:=own_below oo_5 hX6
 have r_6:=Blk.past hX6 r_5
 clear og_5 oo_5 r_5 b_5 cell_r froz_r lt_r hX6
 have cell_r:=r_6.cell
 have froz_r:=r_6.frozen
 have lt_r:=r_6.lt
 have cell_y:=y_6.cell
 have froz_y:=y_6.frozen
 have lt_y:=y_6.lt
 have HF:=hid (And.intro (own_weak (base':=w.heap.size) og_6 z1) (And.intro (own_weak (base':=w.heap.size) oo_6 z1) (And.intro b_6 r_6)))
 have z6:=b_6.size
 clear og_6 oo_6 b_6 r_6 og_in oo_in
 go_wp2
 ((try simp only [Exit.inBlock,Exit.then]); apply bodyPost_ret0; focus ((try simp only [results,Tryz.results91]); (try go_simp); (try rfl)))
 exact cast_gives HGL.out.1 HGL.out.2 (gives_z HF.out.1 HF.out.2.1 HF.out.2.2.1 HF.out.2.2.2 (by omega) (by exact tchBy) (by simp))
set_option linter.unusedVariables false in
set_option maxRecDepth 100000 in
set_option maxHeartbeats 1600000 in
theorem iComp10 {G O:Option Addr} {cg co gr kr d a b c n bx ox cx bY oy cy:Nat} {gs:List Gt} {xs ys:List Int} (w:World) (hg:w.ownsRow 0 TG 3 (.slice G gs.length cg) gs.length (ints (flatG gs))) (ho:w.ownsRow 0 3 1 (.slice O 0 co) 0 (ints [])) (hok:gatesB 0 gs=true) (hl:gs.length≤5000)
  (ha:a≤7) (hb:b≤7) (hrl:gr < w.heap.size) (h8:8≤kr) (hcx:w.cell? ⟨gr,a,none⟩=some (.slice (some ⟨bx,ox,none⟩) 4 cx)) (hcy:w.cell? ⟨gr,b,none⟩=some (.slice (some ⟨bY,oy,none⟩) 4 cy))
  (hx:Wd w (some ⟨bx,ox,none⟩) xs) (hy:Wd w (some ⟨bY,oy,none⟩) ys) (hwx:wordB4 gs.length xs=true) (hwy:wordB4 gs.length ys=true) (hkx:4≤cx) {bz oz cz:Nat} {zs:List Int} {x0:Int} (hc:c≤7) (hcz:w.cell? ⟨gr,c,none⟩=some (.slice (some ⟨bz,oz,none⟩) 4 cz)) (hz:Wd w (some ⟨bz,oz,none⟩) zs) (hwz:wordB4 gs.length zs=true) (hx0:xs[0]? = some x0) :
  Calls Tryz.prog 91 #[.agg #[.slice G gs.length cg,.slice O 0 co],.agg #[.int .i64 10,.int .i64 (d:Int),.int .i64 (a:Int),.int .i64 (b:Int),.int .i64 (c:Int),.int .i64 (n:Int)],.slice (some ⟨gr,0,none⟩) 8 kr,.int .i64 0] w (GivesW w (muxTo gs x0 ys zs 4) (muxW gs.length 4)):=by
 have HZ:=hid hz
 have lbx0:=hx.lt
 clear hz
 have HX:=hid (And.intro hx hy)
 have ha':(a:Int)≤7:=by omega
 have hb':(b:Int)≤7:=by omega
 clear hx hy
 go_enter Tryz.func91,Tryz.ntmps91
 have b_0:=(Below.refl w.heap.size w)
 have s_0:=b_0.size
 have og_in:=own_in hg
 have og_0:=hg
 clear hg
 have oo_in:=own_in ho
 have oo_0:=ho
 clear ho
 have qx_0:=hcx
 clear hcx
 have lt_qx:gr < w.heap.size:=by omega
 have qy_0:=hcy
 clear hcy
 have lt_qy:gr < w.heap.size:=by omega
 have qz_0:=hcz
 clear hcz
 have lt_qz:gr < w.heap.size:=by omega
 go_upto_region 1 with fail
 refine wp_forget3 (w0:=w) (B:=w.heap.size) (b0:=w.heap.size) (t0:=40) (c0:=#[.slice G gs.length cg,.slice O 0 co]) (b1:=w.heap.size + 1) (t1:=73) (c1:=#[.int .i64 10,.int .i64 (d:Int),.int .i64 (a:Int),.int .i64 (b:Int),.int .i64 (c:Int),.int .i64 (n:Int)]) (b2:=w.heap.size + 2) (t2:=40) (c2:=#[.slice none 0 0,.slice none 0 0]) ?_ ?_ ?_ ?_ ?_
 (focus exact blkcBy)
 (focus exact blkcBy)
 (focus exact blkcBy)
 (focus (exact belBy))
 intro w1 x_1 q_1 r_1 hX1
 have sX1:=hX1.size
 have x_lt:=x_1.lt
 have q_lt:=q_1.lt
 have r_lt:=r_1.lt
 have b_1:=b_0.trans (hX1.mono (by omega))
 have og_1:=own_below og_0 hX1
 have oo_1:=own_below oo_0 hX1
 have qx_1:=cell_kept qx_0 hX1 (by dsimp only; omega)
 have qy_1:=cell_kept qy_0 hX1 (by dsimp only; omega)
 have qz_1:=cell_kept qz_0 hX1 (by dsimp only; omega)
 clear og_0 oo_0 qx_0 qy_0 qz_0 b_0 lt_qx lt_qy lt_qz hX1
 have cell_x:=x_1.cell
 have froz_x:=x_1.frozen
 have lt_x:=x_1.lt
 have cell_q:=q_1.cell
 have froz_q:=q_1.frozen
 have lt_q:=q_1.lt
 have cell_r:=r_1.cell
 have froz_r:=r_1.frozen
 have lt_r:=r_1.lt
 have lt_qx:gr < w1.heap.size:=(by omega)
 have lt_qy:gr < w1.heap.size:=(by omega)
 have lt_qz:gr < w1.heap.size:=(by omega)
 have H1:=hid (And.intro og_1 (And.intro oo_1 (And.intro r_1 (And.intro b_1 (And.intro (HX.out.1.below b_1) (HX.out.2.below b_1))))))
 have z1:=b_1.size
 have z2:=r_1.lt
 have am:(a:Int) % 8=(a:Int):=by omega
 have bm:(b:Int) % 8=(b:Int):=by omega
 have a8:(a:Int) < 8:=by omega
 have b8:(b:Int) < 8:=by omega
 clear og_1 oo_1 r_1 b_1 x_1 q_1 HX
 have z5':=z1
 go_upto_region 24 with fail
 have e0:w1.cell? ⟨w.heap.size,0,none⟩=some (.slice G gs.length cg):=cell_x 0
 have e1:w1.cell? ⟨w.heap.size,1,none⟩=some (.slice O 0 co):=cell_x 1
 have e4:w1.cell? ⟨w.heap.size + 1,4,none⟩=some (.int .i64 (c:Int)):=cell_q 4
 have d0:w1.cell? ⟨bx,ox,none⟩=some (.int .i64 x0):=H1.out.2.2.2.2.1.cell hx0
 have hx01:0≤x0∧x0≤(gs.length:Int) - 1:=by have:=inB_iff.1 ((wordB4_at hwx).2 hx0); omega
 have hR:=H1.out.2.2.1
 have hy1:=H1.out.2.2.2.2.2
 have hz1:=HZ.out.below H1.out.2.2.2.1
 have ob:=H1.out.2.2.2.1
 have og:=own_weak H1.out.1 (Nat.zero_le _)
 have oo:=own_weak H1.out.2.1 (Nat.zero_le _)
 have lbx:bx < w1.heap.size:=by omega
 have n0:w.heap.size + 2≠w.heap.size:=by omega
 have n1:w.heap.size + 2≠w.heap.size + 1:=by omega
 have n2:w.heap.size + 2≠bx:=by omega
 have n3:w.heap.size + 2≠gr:=by omega
 have c8:(c:Int) < 8:=by omega
 have c0:(0:Int)≤(c:Int):=by omega
 have k0:(0:Int) < 4:=by omega
 clear H1 HZ cell_r froz_r lt_r og_in oo_in
 go_region_held3 (fun w'=>w'.cell? ⟨w.heap.size,0,none⟩=some (.slice G gs.length cg)∧w'.cell? ⟨w.heap.size,1,none⟩=some (.slice O 0 co)∧w'.cell? ⟨w.heap.size + 1,4,none⟩=some (.int .i64 (c:Int))∧w'.cell? ⟨bx,ox,none⟩=some (.int .i64 x0)∧w'.cell? ⟨gr,c,none⟩=some (.slice (some ⟨bz,oz,none⟩) 4 cz)) (first | exact ⟨e0,e1,e4,d0,qz_1⟩ | exact ⟨e0p,e1p,e4p,d0p,qzp⟩ | exact ⟨cell_far (cell_far e0p n0) n0,cell_far (cell_far e1p n0) n0,cell_far (cell_far e4p n1) n1,cell_far (cell_far d0p n2) n2,cell_far (cell_far qzp n3) n3⟩) ((go_at_call 166; refine Calls.mono (iWordMux x0 _ (own_heap og rfl) (own_heap oo rfl) hok hl hx01 (Wd.heap hy1 rfl) (Wd.heap hz1 rfl) hwy hwz) ?_; rintro e w5 ⟨G5,cg5,O5,co5,g5,k5,rfl,k1,k2,hge,k3,hbb⟩; have z5:=hbb.size; have e0p:=(hbb.cell (p:=⟨w.heap.size,0,none⟩) x_lt).trans e0; have e1p:=(hbb.cell (p:=⟨w.heap.size,1,none⟩) x_lt).trans e1; have e4p:=(hbb.cell (p:=⟨w.heap.size + 1,4,none⟩) q_lt).trans e4; have d0p:=(hbb.cell (p:=⟨bx,ox,none⟩) lbx).trans d0; have qzp:=(hbb.cell (p:=⟨gr,c,none⟩) lt_qz).trans qz_1; have hr5:=Blk.past hbb hR.drew; have cell_r:=hr5.cell; have froz_r:=hr5.frozen; have lt_r:=hr5.lt))
 all_goals
  have HF:=hid (And.intro (own_weak (base':=w.heap.size) k1 z1) (And.intro (own_weak (base':=w.heap.size) k2 z1) (And.intro k3 (And.intro (ob.drew.trans (Below.mono hbb z1)) hr5))))
  have hg5:w.heap.size≤g5:=Nat.le_trans z1 hge
  clear k1 k2 k3 hbb hr5 e0p e1p e4p d0p qzp og oo ob hR hy1 hz1 e0 e1 e4 d0 qz_1
  go_wp2
  ((try simp only [Exit.inBlock,Exit.then]); apply bodyPost_ret0; focus ((try simp only [results,Tryz.results91]); (try go_simp); (try rfl)))
  exact gives_w rfl HF.out.1 HF.out.2.1 HF.out.2.2.1 HF.out.2.2.2.1 hg5 HF.out.2.2.2.2 (by omega) (by exact tchBy)
end Go.Proofs.YtihbaieiempjeaaGreat
