/- Lemmas of the proof: CmpI, CmpS. -/
import Derived.Test.YtihbaieiempjeaaGreatD0
import Derived.Test.YtihbaieiempjeaaGreatD12
import Derived.Test.YtihbaieiempjeaaGreatD13
import Derived.Deep.DeepCutAuto
import Derived.Deep.RegionLaw
namespace Go.Proofs.YtihbaieiempjeaaGreat
open Go.RowKit
theorem regs_new {w:World} {g m k gf kf q n c:Nat} (h:Row w g 30 1 m k (List.replicate m (.slice (some ⟨gf,0,none⟩) 4 kf))) {ws:List Int} (hf:RowI w gf 4 kf ws) (hq:gf≠q):RegsV w g m k (List.replicate m ws) (.slice (some ⟨q,0,none⟩) n c):=by
 refine ⟨_,h,fun j us hj=>?_⟩
 have hl:=(List.getElem?_eq_some_iff.1 hj).1
 rw [List.length_replicate] at hl
 rw [List.getElem?_replicate,if_pos hl] at hj
 injection hj with hj
 subst hj
 exact ⟨gf,0,kf,by rw [List.getElem?_replicate,if_pos hl],hf.cap,fun p hp=>by have:=own_here p hp; omega,Wd.of_row hf⟩
theorem blkcBy2 {w:World} {b t:Nat} {cs:Array Value} (h:Blk w b t cs:=by first | ((first | ((repeat (with_reducible first | assumption | apply Blk.drew | apply Blk.drewN | (apply Blk.new; first | rfl | (simp; done)) | apply Blk.alloc | apply Blk.set_ | (apply Blk.past; focus assumption) | (apply Blk.far; focus (first | (simp; done) | (simp; omega) | (dsimp only; omega))))); done) | (apply Blk.cast; (case h=>(repeat (with_reducible first | assumption | apply Blk.drew | apply Blk.drewN | (apply Blk.new; first | rfl | (simp; done)) | apply Blk.alloc | apply Blk.set_ | (apply Blk.past; focus assumption) | (apply Blk.far; focus (first | (simp; done) | (simp; omega) | (dsimp only; omega)))))); (case e=>rfl)))) | fail):Blk w b t cs:=h
structure LoopI (w:World) (U:List St) (bc gr kr gf gl kl:Nat) (c:Cs) (G:Option Addr) (cg:Nat) (O:Option Addr) (co gO kO:Nat) (wr:World):Prop where
 x:Blk wr bc TS #[.slice G c.g.length cg,.slice O 0 co]
 r:Blk wr w.heap.size TS #[.slice none 0 0,.slice none 0 0]
 g:wr.ownsRow w.heap.size TG 3 (.slice G c.g.length cg) c.g.length (ints (flatG c.g))
 o:wr.ownsRow w.heap.size 3 1 (.slice O 0 co) 0 []
 rg:RegsV wr gr 8 kr c.r (.slice (some ⟨gO,0,none⟩) c.o.length kO)
 out:RowI wr gO c.o.length kO c.o
 lo:w.heap.size≤gO
 f:Wd wr (some ⟨gf,0,none⟩) (upW 0 4)
 ne:gf≠gO
 l:RowS wr gl U.length kl U
 b:Below w.heap.size w wr
 no:∀ q,(Value.slice O 0 co).ownBlock=some q→q≠gO
 bx:w.heap.size < bc
 lg:w.heap.size≤gr
theorem compC_at {U:List St} {j:Nat} {s:St} (h:U[j]? = some s):compC (U.take (j + 1))=stepC (compC (U.take j)) s:=by
 obtain ⟨hl,rfl⟩:=List.getElem?_eq_some_iff.1 h
 rw [List.take_succ_eq_append_getElem hl,compC_snoc]
theorem wd_all {w:World} {b off:Nat} {xs:List Int} (h:Wd w (some ⟨b,off,none⟩) xs):∀ j u,(ints xs)[j]? = some u→w.cell? ⟨b,off + j,none⟩=some u:=fun j u hu=>by
 obtain ⟨x,hx,rfl⟩:=ints_inv hu
 exact h.cell hx
theorem LoopI.app {w:World} {U:List St} {bc gr kr gf gl kl:Nat} {c:Cs} {G:Option Addr} {cg:Nat} {O:Option Addr} {co gO kO:Nat} {wr w':World} (h:LoopI w U bc gr kr gf gl kl c G cg O co gO kO wr) {ws:List Int} {g' k':Nat} (h1:RowI w' g' (c.o.length + 4) k' (c.o ++ ws)) (hw:ws.length=4) (h2:wr.grownBy w' (some gO)) (h3:g'=gO∨wr.heap.size≤g') :
  LoopI w U bc gr kr gf gl kl ⟨c.g,c.r,c.o ++ ws⟩ G cg O co g' k' w':=by
 have hl:(c.o ++ ws).length=c.o.length + 4:=by rw [List.length_append,hw]
 have hsz:=h.b.size
 have hlo:w.heap.size≤g':=by
  have:=h.lo
  rcases h3 with rfl | h3 <;> omega
 refine ⟨h.x.grown h2 (fun e=>?_),h.r.grown h2 (fun e=>?_),gr_own h2 h.g fun q p hq hp=>?_,gr_own h2 h.o fun q p hq hp=>?_,?_,by rw [hl]; exact h1,hlo,h.f.grown h2 h.ne,?_,h.l.grown h2 (fun e=>?_),below_apps h.b h2 h.b.size h.lo,fun q hq=>?_,h.bx,h.lg⟩
 ·injection e with e
  exact h.out.not_blk h.x (by decide) e.symm
 ·injection e with e
  exact h.out.not_blk h.r (by decide) e.symm
 ·injection hq with hq
  subst hq
  exact own_ne h.out h.g (by decide) _ _ rfl hp
 ·injection hq with hq
  subst hq
  exact fun e=>h.no p hp e.symm
 ·have:=h.rg.grown h2 h.out (by decide) h3 (c.o.length + 4) k'
  rw [←hl] at this
  exact this
 ·rcases h3 with rfl | h3
  ·exact h.ne
  ·have:=h.f.lt
   omega
 ·subst e
  obtain ⟨_,c1,k1,_⟩:=h.l.parts
  obtain ⟨_,c2,k2,_⟩:=h.out.parts
  rw [k1] at k2
  injection k2 with k2
  injection k2 with _ k2 _
  exact absurd k2 (by decide)
 ·rcases h3 with rfl | h3
  ·exact h.no q hq
  ·have:=own_in h.o q hq
   omega
def CutC (N:Nat) (gs:List Gt) (ws:List Int) (W:World) (v13 v14:Value) (wx:World):Prop :=
 ∃ (y:Nat) (G:Option Addr) (cg:Nat) (O:Option Addr) (co g k:Nat),v13=.pointer (some ⟨y,0,none⟩)∧v14=.slice (some ⟨g,0,none⟩) 4 k∧W.heap.size≤y∧Blk wx y TS #[.slice G N cg,.slice O 0 co] ∧
  (wx.ownsRow W.heap.size TG 3 (.slice G N cg) N (ints (flatG gs))∧wx.ownsRow W.heap.size 3 1 (.slice O 0 co) 0 []∧wx.ownsRow W.heap.size 3 1 (.slice (some ⟨g,0,none⟩) 4 k) 4 (ints ws))∧Below W.heap.size W wx
theorem iCompiledR {G O:Option Addr} {cg co gr kr k N n:Nat} {c:Cs} {s:St} (w:World) (h:OkC c k) (hk:k≤120) (hs:Plain s) (hn:c.g.length=n) (hN:(wordP c.g c.r 0 s).1.length=N) (hg:w.ownsRow 0 TG 3 (.slice G n cg) n (ints (flatG c.g))) (ho:w.ownsRow 0 3 1 (.slice O 0 co) 0 []) (hr:Regs w gr kr c.r) :
  Calls Tryz.prog 91 #[.agg #[.slice G n cg,.slice O 0 co],.agg #[.int .i64 s.o,.int .i64 s.d,.int .i64 s.a,.int .i64 s.b,.int .i64 s.c,.int .i64 s.n],.slice (some ⟨gr,0,none⟩) 8 kr,.int .i64 0] w fun e w'=>∃ G' cg' O' co' g' k',e=.returned (.tuple #[.agg #[.slice G' N cg',.slice O' 0 co'],.slice (some ⟨g',0,none⟩) 4 k']) ∧
   w'.ownsRow w.heap.size TG 3 (.slice G' N cg') N (ints (flatG (wordP c.g c.r 0 s).1))∧w'.ownsRow w.heap.size 3 1 (.slice O' 0 co') 0 []∧w'.ownsRow w.heap.size 3 1 (.slice (some ⟨g',0,none⟩) 4 k') 4 (ints (wordP c.g c.r 0 s).2)∧Below w.heap.size w w':=by
 subst hn hN
 refine Calls.mono (iCompiled s w hg ho hr h hk hs) ?_
 rintro e w' ⟨G',cg',O',co',g',k',rfl,h1,h2,h3,h4,h5⟩
 exact ⟨G',cg',O',co',g',k',rfl,h1,h2,Row.own h4 h3,h5⟩
theorem wp_set2 {P:Program} {c:Code} {Q:Exit→Act→World→Prop} {a:Act} {w:World} {b t:Nat} {c0 c1 u v:Value} (h0:Blk w b t #[c0,c1]) (h:∀ W,Blk W b t #[u,v]→Touch [b] w W→Code.wp P c Q a W) :
  Code.wp P c Q a ((w.setCell ⟨b,0,none⟩ u).setCell ⟨b,1,none⟩ v) :=
 h _ ((h0.set_ 0 u).set_ 1 v) (((Touch.refl [b] w).set_ _ _ (by simp)).set_ _ _ (by simp))
theorem LoopI.word {w:World} {U:List St} {bc gr kr gf gl kl:Nat} {c:Cs} {G:Option Addr} {cg:Nat} {O:Option Addr} {co gO kO:Nat} {wr w3 w4:World} (h:LoopI w U bc gr kr gf gl kl c G cg O co gO kO wr)
  (hb:Below wr.heap.size wr w3) {gs:List Gt} {ws:List Int} {G2 O2:Option Addr} {cg2 co2 g2 k2 N:Nat} (hN:gs.length=N) (pg:w3.ownsRow wr.heap.size TG 3 (.slice G2 N cg2) N (ints (flatG gs))) (po:w3.ownsRow wr.heap.size 3 1 (.slice O2 0 co2) 0 [])
  (pw:w3.ownsRow wr.heap.size 3 1 (.slice (some ⟨g2,0,none⟩) 4 k2) 4 (ints ws)) (x4:Blk w4 bc TS #[.slice G2 N cg2,.slice O2 0 co2]) (t4:Touch [bc] w3 w4) {d:Nat} (hd:d < c.r.length) :
  LoopI w U bc gr kr gf gl kl ⟨gs,c.r.set d ws,c.o⟩ G2 cg2 O2 co2 gO kO (w4.setCell ⟨gr,d,none⟩ (.slice (some ⟨g2,0,none⟩) 4 k2)):=by
 subst hN
 have hbc:w.heap.size≠bc:=by have:=h.bx; omega
 have hx3:=h.x.past hb
 have hsz:=h.b.size
 have hge:wr.heap.size≤g2:=(own_in pw g2 rfl).1
 have hgo:=h.out.lt
 have rw3:RowI w3 g2 4 k2 ws:=own_weak (base':=0) pw (Nat.zero_le _)
 have rw4:RowI w4 g2 4 k2 ws:=Row.touch rw3 t4 (by have:=Row.not_blk rw3 hx3 (by decide); simp; exact this)
 have rg4:=(h.rg.below hb).touch t4 hx3 (by decide) (by decide)
 obtain ⟨rg5,hg5⟩:=rg4.set_ (b:=g2) (off:=0) (k:=k2) hd rw4.cap (fun q hq=>by have:=own_here q hq; omega) (Wd.of_row rw4)
 have hrow:∃ vals,Row w4 gr 30 1 8 kr vals:=by obtain ⟨vals,q,_⟩:=rg4; exact ⟨vals,q⟩
 obtain ⟨vals,hrow⟩:=hrow
 have ol4:=(h.l.below hb).touch t4 (by have:=(h.l.below hb).not_blk hx3 (by decide); simp; exact this)
 have oo4:=(h.out.below hb).touch t4 (by have:=(h.out.below hb).not_blk hx3 (by decide); simp; exact this)
 have f4:=(h.f.below hb).touch t4 (by have:=(h.f.below hb).not_blk hx3 (by decide); simp; exact this)
 have r4:=Blk.touch t4 (h.r.past hb) (by simp; exact hbc)
 have g4:=own_touch' t4 pg (fun q hq=>by have:=own_ne_obj pg hx3 (by decide) q hq; simp; exact this)
 have o4:=own_touch' t4 po (fun q hq=>by have:=own_ne_obj po hx3 (by decide) q hq; simp; exact this)
 have hb4:Below w.heap.size w w4:=t4.below' (h.b.trans (hb.mono hsz)) (fun i hi=>by simp at hi; have:=h.bx; omega) (Nat.le_trans hsz hb.size)
 have nrow:∀ {e m k q s:Nat} {xs:List Value},Row w4 q e s m k xs→e≠30→q≠gr:=fun {e m k q s xs} hq he e2=>by
  subst e2
  obtain ⟨_,c1,k1,_⟩:=hrow.parts
  obtain ⟨_,c2,k3,_⟩:=hq.parts
  rw [k1] at k3
  injection k3 with k3
  injection k3 with _ k3 _
  exact he k3.symm
 have own_ne_gr:∀ {lo e s m:Nat} {v:Value} {xs:List Value},w4.ownsRow lo e s v m xs→e≠30→∀ q,v.ownBlock=some q→q≠gr:=fun {lo e s m v xs} hq he q hv=>own_ne hq hrow he q gr hv rfl
 exact ⟨x4.far (fun e=>hrow.not_blk x4 (by decide) e.symm) _,r4.far (fun e=>hrow.not_blk r4 (by decide) e.symm) _,own_setne (own_weak g4 hsz) (own_ne_gr g4 (by decide)),own_setne (own_weak o4 hsz) (own_ne_gr o4 (by decide)),rg5,oo4.grown hg5 (nrow oo4 (by decide)),h.lo,f4.grown hg5 (f4.not_ rfl hrow (by decide)),h.ne,
  ol4.grown hg5 (nrow ol4 (by decide)),below_apps hb4 hg5 hb4.size h.lg,fun q hq=>by have:=own_in po q hq; omega,h.bx,h.lg⟩
theorem give_comp {w wr w':World} {bc:Nat} {c:Cs} {G O:Option Addr} {cg co:Nat} {cs cs':Array Value} (hx:Blk wr bc TS cs) (hr:Blk wr w.heap.size TS cs') (h1:wr.ownsRow w.heap.size TG 3 (.slice G c.g.length cg) c.g.length (ints (flatG c.g))) (h2:wr.ownsRow w.heap.size 3 1 (.slice O c.o.length co) c.o.length (ints c.o))
  (hb:Below w.heap.size w wr) (hbc:w.heap.size≤bc) (ht:Touch [bc,w.heap.size] wr w'):GivesC w true c.g c.o (.returned (.tuple #[.agg #[.slice G c.g.length cg,.slice O c.o.length co],.bool true])) w':=by
 have hm:∀ q,q≠bc→q≠w.heap.size→q ∉ [bc,w.heap.size]:=fun q h h'=>by simp [h,h']
 exact ⟨G,cg,O,co,rfl,own_touch' ht h1 (fun q hq=>hm q (own_ne_obj h1 hx (by decide) q hq) (own_ne_obj h1 hr (by decide) q hq)),own_touch' ht h2 (fun q hq=>hm q (own_ne_obj h2 hx (by decide) q hq) (own_ne_obj h2 hr (by decide) q hq)),
  ht.below' hb (fun i hi=>by simp at hi; omega) hb.size⟩
set_option linter.unusedVariables false in
set_option maxRecDepth 100000 in
set_option maxHeartbeats 3200000 in
theorem iCompile (A:Option Addr) (c:Nat) (L:List St) (w:World) (hc:Cells w w.heap.size A (ints (flatS L))) (hn:L.length≤1000000000) (hcap:L.length≤c) :
  Calls Tryz.prog 45 #[.slice A L.length c] w (GivesC w (unrB L) (compL L).g (compL L).o):=by
 have HU:=hid (fun w hc=>iUnroll A c L w hc hn hcap)
 have hok:=comp_ok L
 have hul:=unrL_len L
 have hus:=unrL_ok L
 cases hu:unrB L
 ·have HC:=hid (comp_no hu)
  rw [hu] at HU
  clear hu hok hul hus
  go_enter Tryz.func45,Tryz.ntmps45
  have b_0:=(Below.refl w.heap.size w)
  have s_0:=b_0.size
  have l_0:=hc
  clear hc
  go_upto_region 1 with fail
  refine wp_forget1 (w0:=w) (B:=w.heap.size) (b0:=w.heap.size) (t0:=40) (c0:=#[.slice none 0 0,.slice none 0 0]) ?_ ?_ ?_
  (focus exact blkcBy2)
  (focus (exact belBy))
  intro w1 r_1 hX1
  have sX1:=hX1.size
  have r_lt:=r_1.lt
  have b_1:=b_0.trans (hX1.mono (by omega))
  have l_1:=cells_below l_0 hX1 (by omega)
  clear l_0 b_0 hX1
  have cell_r:=r_1.cell
  have froz_r:=r_1.frozen
  have lt_r:=r_1.lt
  have HL:=hid (And.intro l_1 (And.intro b_1 r_1))
  clear l_1 b_1 r_1
  go_wp2_with fail
  refine Calls.mono (HU.out _ (HL.out.1.more (by omega))) ?_
  rintro e w2 ⟨A',k,rfl,_,hb⟩
  have z2:=hb.size
  have hr:=HL.out.2.2.past hb
  have hb2:=HL.out.2.1.trans (hb.mono (by omega))
  have cell_r2:=hr.cell
  have froz_r2:=hr.frozen
  have lt_r2:=hr.lt
  have HF:=hid (And.intro hb2 hr)
  clear hb hr hb2 cell_r froz_r lt_r
  go_wp2
  ((try simp only [Exit.inBlock,Exit.then]); apply bodyPost_ret0; focus ((try simp only [results,Tryz.results45]); (try go_simp); (try rfl)))
  rw [HC.out]
  refine ⟨none,0,none,0,rfl,own_none,own_none,?_⟩
  have hb2:=HF.out.1
  exact belBy
 ·have HC:=hid (comp_yes hu)
  rw [hu] at HU
  clear hu
  obtain ⟨U,hU⟩:∃ U,unrL L=U:=⟨_,rfl⟩
  rw [hU] at HU HC hok hul hus
  clear hU
  have HT:=hid (ok_take hus)
  have HV:=hid hus
  clear hus hok
  go_enter Tryz.func45,Tryz.ntmps45
  have b_0:=(Below.refl w.heap.size w)
  have s_0:=b_0.size
  have l_0:=hc
  clear hc
  go_upto_region 1 with fail
  refine wp_forget1 (w0:=w) (B:=w.heap.size) (b0:=w.heap.size) (t0:=40) (c0:=#[.slice none 0 0,.slice none 0 0]) ?_ ?_ ?_
  (focus exact blkcBy2)
  (focus (exact belBy))
  intro w1 r_1 hX1
  have sX1:=hX1.size
  have r_lt:=r_1.lt
  have b_1:=b_0.trans (hX1.mono (by omega))
  have l_1:=cells_below l_0 hX1 (by omega)
  clear l_0 b_0 hX1
  have cell_r:=r_1.cell
  have froz_r:=r_1.frozen
  have lt_r:=r_1.lt
  have HL:=hid (And.intro l_1 (And.intro b_1 r_1))
  clear l_1 b_1 r_1
  go_wp2_with fail
  refine Calls.mono (HU.out _ (HL.out.1.more (by omega))) ?_
  rintro e w2 ⟨A',kl,rfl,hrow,hb⟩
  obtain ⟨gl,rfl,hgl,hrw⟩:=hrow trivial
  clear hrow
  have z2:=hb.size
  have hr:=HL.out.2.2.past hb
  have hb2:=HL.out.2.1.trans (hb.mono (by omega))
  have HF:=hid (And.intro hb2 (And.intro hr hrw))
  clear hb hr hb2 hrw cell_r froz_r lt_r HL HU
  go_wp2_with fail
  refine Calls.mono (iWordConst (gs:=[]) (G:=none) (O:=none) (cg:=0) (co:=0) 0 _ own_none own_none rfl (by simp) (by omega)) ?_
  rintro e w3 ⟨G,cg,O,co,gf,kf,rfl,k1,k2,hgf,k3,hb⟩
  have z3:=hb.size
  have hr:=HF.out.2.1.past hb
  have hb3:=HF.out.1.trans (hb.mono (by omega))
  have HF3:=hid (And.intro k3 (HF.out.2.2.below hb))
  clear hb HF k3
  have b_3:=(Below.refl w3.heap.size w3)
  have s_3:=b_3.size
  have og_in:=own_in k1
  have og_3:=k1
  clear k1
  have oo_in:=own_in k2
  have oo_3:=k2
  clear k2
  have r_3:=hr
  clear hr
  have r_lt:=r_3.lt
  have cell_r:=r_3.cell
  have froz_r:=r_3.frozen
  have lt_r:=r_3.lt
  go_upto_region 5 with fail
  refine wp_forget1 (w0:=w3) (B:=w3.heap.size) (b0:=w3.heap.size) (t0:=40) (c0:=#[.slice G (constTo [] 0 4).length cg,.slice O 0 co]) ?_ ?_ ?_
  (focus exact blkcBy2)
  (focus (exact belBy))
  intro w4 x_4 hX4
  have sX4:=hX4.size
  have x_lt:=x_4.lt
  have b_4:=b_3.trans (hX4.mono (by omega))
  have og_4:=own_below og_3 hX4
  have oo_4:=own_below oo_3 hX4
  have r_4:=Blk.past hX4 r_3
  clear og_3 oo_3 r_3 b_3 cell_r froz_r lt_r hX4
  have cell_r:=r_4.cell
  have froz_r:=r_4.frozen
  have lt_r:=r_4.lt
  have cell_x:=x_4.cell
  have froz_x:=x_4.frozen
  have lt_x:=x_4.lt
  have H4:=hid (And.intro og_4 (And.intro oo_4 (And.intro r_4 (And.intro x_4 (And.intro (hb3.trans (b_4.mono (by omega))) (And.intro (HF3.out.1.below b_4) (HF3.out.2.below b_4)))))))
  have z4:=b_4.size
  have hfn:=HF3.out.1.lt
  clear og_4 oo_4 r_4 x_4 b_4 HF3 cell_r froz_r cell_x froz_x hb3 og_in oo_in
  go_upto_region 6 with fail
  obtain ⟨w5,hw5⟩:∃ w5,w5=w4.alloc (.cells #[] 30):=⟨_,rfl⟩
  have hb:Below w4.heap.size w4 w5:=by rw [hw5]; exact (Below.refl _ _).alloc (Nat.le_refl _) _
  have ho5:Row w5 w4.heap.size 30 1 0 0 []:=by rw [hw5]; exact Row.new #[] (Nat.zero_le _) rfl rfl
  rw [←hw5]
  have H5:=hid (And.intro ho5 hb)
  clear ho5 hb hw5
  go_wp2_with fail
  go_loopw [8,9] (fun o i wr=>∃ (m g k:Nat),m≤8∧i=.int .i64 (m:Int)∧o=.slice (some ⟨g,0,none⟩) m k∧w4.heap.size≤g∧Row wr g 30 1 m k (List.replicate m (.slice (some ⟨gf,0,none⟩) 4 kf))∧Below w4.heap.size w4 wr) (fun _ i _=>8 - (intOf i).toNat)
  case atStart=>exact ⟨0,w4.heap.size,0,Nat.zero_le _,rfl,rfl,Nat.le_refl _,H5.out.1,H5.out.2⟩
  case round =>
   clear H5
   obtain ⟨m,g,k,hm,rfl,rfl,hg,hR,hb⟩:=hrel
   have zr:=hb.size
   have HR:=hid (And.intro hR hb)
   have hgr:=hR.lt
   have hk8:=hR.cap
   clear hR hb
   by_cases hlt:m < 8
   ·have hlt':(m:Int) < 8:=by omega
    go_wp2_with (at_builtin; refine wpList_apps rfl _ _ 25 rfl 30 (.slice none 0 0) 1 24 Tryz.underlying25 infoW rfl (by decide) rfl (HR.out.1.alloc _) ⟨wr.heap.size,0,none⟩ 1 1 [.slice (some ⟨gf,0,none⟩) 4 kf] rfl rfl (one_new _ _ _) (by intro u hu; simp at hu; subst hu; rfl) (by omega) (by decide) ?_)
    intro g' k' w6 h1 h2 h3
    have h2:=grown_alloc h2
    have hg':w4.heap.size≤g':=by (try simp at h3); omega
    have H6:=hid (And.intro h1 (below_apps HR.out.2 h2 zr hg))
    clear h1 h2 h3 HR
    go_wp2
    go_roundw
    case rel=>exact ⟨m + 1,g',k',by omega,by go_num,rfl,hg',by rw [List.replicate_succ']; exact H6.out.1,H6.out.2⟩
    case measure=>simp [intOf]; omega
   ·obtain rfl:m=8:=by omega
    go_upto_region 11 with fail
    rw [show ((8:Nat):Int)=8 from rfl]
    obtain ⟨w7,hw7⟩:∃ w7,w7=wr.alloc (.cells #[] 3):=⟨_,rfl⟩
    have hb:Below wr.heap.size wr w7:=by rw [hw7]; exact (Below.refl _ _).alloc (Nat.le_refl _) _
    have ho7:RowI w7 wr.heap.size 0 0 []:=by rw [hw7]; exact Row.new #[] (Nat.zero_le _) rfl rfl
    rw [←hw7]
    have q4:=HR.out.2
    have H7:=hid (show LoopI w U w3.heap.size g k gf gl kl cs0 G cg O co wr.heap.size 0 w7 from
     ⟨(H4.out.2.2.2.1.past q4).past hb,(H4.out.2.2.1.past q4).past hb,own_weak (own_below (own_below H4.out.1 q4) hb) (by omega),own_weak (own_below (own_below H4.out.2.1 q4) hb) (by omega),
      (regs_new (HR.out.1.below hb) (ws:=upW 0 4) ((H4.out.2.2.2.2.2.1.below q4).below hb) (by omega)),ho7,by omega,Wd.of_row ((H4.out.2.2.2.2.2.1.below q4).below hb),by omega,(H4.out.2.2.2.2.2.2.below q4).below hb,
      H4.out.2.2.2.2.1.trans ((q4.mono (by omega)).trans (hb.mono (by omega))),fun q hq=>by have:=own_in H4.out.2.1 q hq; omega,by omega,by omega⟩)
    clear ho7 hb hw7 q4 H4 HR
    have hbx:w.heap.size < w3.heap.size:=by omega
    obtain ⟨bc,hbc⟩:∃ n,w3.heap.size=n:=⟨_,rfl⟩
    obtain ⟨g0,hg0⟩:∃ n,wr.heap.size=n:=⟨_,rfl⟩
    rw [hbc,hg0] at H7
    rw [hbc] at hbx ⊢
    rw [hg0]
    clear hbc hg0
    go_wp2_with fail
    go_loopw [10,12,13,14,40] (fun o _ _ _ i wr=>∃ (j:Nat) (G:Option Addr) (cg:Nat) (O:Option Addr) (co gO kO:Nat),j≤U.length∧i=.int .i64 (j:Int)∧o=.slice (some ⟨gO,0,none⟩) (compC (U.take j)).o.length kO∧LoopI w U bc g k gf gl kl (compC (U.take j)) G cg O co gO kO wr) (fun _ _ _ _ i _=>U.length - (intOf i).toNat)
    case atStart=>exact ⟨0,G,cg,O,co,g0,0,Nat.zero_le _,rfl,rfl,H7.out⟩
    case round =>
     clear H7
     obtain ⟨j,G,cg,O,co,gO,kO,hj,rfl,rfl,hI⟩:=hrel
     have hok:=HT.out j hj
     by_cases hlt:j < U.length
     ·obtain ⟨s,hx⟩:∃ s,U[j]? = some s:=⟨_,List.getElem?_eq_getElem hlt⟩
      have hv:=HV.out s (List.mem_of_getElem? hx)
      have hst:compC (U.take (j + 1))=stepC (compC (U.take j)) s:=compC_at hx
      obtain ⟨cj,hcj⟩:∃ c,compC (U.take j)=c:=⟨_,rfl⟩
      rw [hcj] at hI hok hst ⊢
      have hin:=stmt_in hv.1
      have HX:=hid hx
      have HS:=hid hst
      have HOK:=hid hok
      have HV2:=hid hv
      have dl:=fun (t:Nat) (x:Int) (hx2:(sixS s)[t]? = some x)=>hI.l.cell (ints_get (flatS_at hx t x hx2))
      clear hx hst hcj hok hv
      by_cases h11:s.o=11
      ·have hR:=hin.2.2.1
       obtain ⟨o,d,a,b,e,n⟩:=s
       obtain rfl:o=11:=h11
       dsimp only at hR
       obtain ⟨a,rfl⟩:=Int.eq_ofNat_of_zero_le hR.1
       have ha8:(a:Int) < 8:=by omega
       obtain ⟨ea,wa⟩:=HOK.out.reg hR
       rw [Int.toNat_natCast] at ea
       obtain ⟨bx,ox,cx,qx,kx,nx,dx⟩:=hI.rg.at_ ea
       have x4:=word_len wa
       have hoh:=HOK.out.oh
       have d0:wr.cell? ⟨gl,j * 6,none⟩=some (.int .i64 11):=dl 0 _ rfl
       have d1:wr.cell? ⟨gl,j * 6 + 1,none⟩=some (.int .i64 d):=dl 1 _ rfl
       have d2:wr.cell? ⟨gl,j * 6 + 2,none⟩=some (.int .i64 (a:Int)):=dl 2 _ rfl
       have d3:wr.cell? ⟨gl,j * 6 + 3,none⟩=some (.int .i64 b):=dl 3 _ rfl
       have d4:wr.cell? ⟨gl,j * 6 + 4,none⟩=some (.int .i64 e):=dl 4 _ rfl
       have d5:wr.cell? ⟨gl,j * 6 + 5,none⟩=some (.int .i64 n):=dl 5 _ rfl
       have hlt':(j:Int) < (U.length:Int):=by omega
       have hgrl:=hI.rg.lt
       have hgl2:=hI.l.lt
       have hcp:=hI.rg.cap
       have hst:stepC cj ⟨11,d,(a:Int),b,e,n⟩=⟨cj.g,cj.r,cj.o ++ regL cj.r (a:Int)⟩:=rfl
       have HI:=hid (And.intro hI (HS.out.trans hst))
       have HW:=hid (And.intro dx x4)
       clear hI dl ea hst HS dx wa x4 hin nx HX HV2
       go_wp2_with (at_builtin; refine app_int rfl _ _ rfl rfl (HI.out.1.out.alloc _) (regL cj.r (a:Int)) rfl HW.out.2 (wd_all (HW.out.1.below ((Below.refl _ _).alloc (Nat.le_refl _) _))) (by omega) ?_)
       intro g' k' w6 h1 h2 h3
       have h2:=grown_alloc h2
       have H6:=hid (HI.out.1.app h1 HW.out.2 h2 (by (try simp at h3); omega))
       have hl6:(cj.o ++ regL cj.r (a:Int)).length=cj.o.length + 4:=by rw [List.length_append,HW.out.2]
       have HL6:=hid hl6
       clear h1 h2 h3 hl6
       go_wp2
       go_roundw
       case rel=>exact ⟨j + 1,G,cg,O,co,g',k',by omega,by go_num,by rw [HI.out.2]; exact congrArg (fun q=>Value.slice (some ⟨g',0,none⟩) q k') HL6.out.symm,by rw [HI.out.2]; exact H6.out⟩
       case measure=>simp [intOf]; omega
      ·have hp:=stmt_plain HV2.out.1 h11 HV2.out.2.1 HV2.out.2.2
       have hst:stepC cj s=⟨(wordP cj.g cj.r 0 s).1,cj.r.set s.d.toNat (wordP cj.g cj.r 0 s).2,cj.o⟩:=by unfold stepC; rw [if_neg h11]
       obtain ⟨N,hN⟩:∃ N,(wordP cj.g cj.r 0 s).1.length=N:=⟨_,rfl⟩
       obtain ⟨M,hM⟩:∃ N,cj.g.length=N:=⟨_,rfl⟩
       have HCC:=hid (fun (G:Option Addr) (cg:Nat) (O:Option Addr) (co:Nat) w hg ho hr=>iCompiledR (G:=G) (cg:=cg) (O:=O) (co:=co) (gr:=g) (kr:=k) w HOK.out (by omega) hp hM hN hg ho hr)
       have HN:=hid (And.intro (HS.out.trans hst) hN)
       have hr8:=HOK.out.r
       have hdd:=hp.d
       obtain ⟨GS,hGS⟩:∃ l,(wordP cj.g cj.r 0 s).1=l:=⟨_,rfl⟩
       obtain ⟨WS,hWS⟩:∃ l,(wordP cj.g cj.r 0 s).2=l:=⟨_,rfl⟩
       rw [hGS,hWS] at HN HCC
       rw [hGS] at hN
       clear hGS hWS hst HS hp HV2 hN HX HOK
       obtain ⟨o,d,a,b,e,n⟩:=s
       dsimp only at h11 hdd HCC HN hin
       obtain ⟨d,rfl⟩:=Int.eq_ofNat_of_zero_le hdd.1
       rw [Int.toNat_natCast] at HN
       have e11:(o == 11)=false:=by simpa using h11
       have d0:wr.cell? ⟨gl,j * 6,none⟩=some (.int .i64 o):=dl 0 _ rfl
       have d1:wr.cell? ⟨gl,j * 6 + 1,none⟩=some (.int .i64 (d:Int)):=dl 1 _ rfl
       have d2:wr.cell? ⟨gl,j * 6 + 2,none⟩=some (.int .i64 a):=dl 2 _ rfl
       have d3:wr.cell? ⟨gl,j * 6 + 3,none⟩=some (.int .i64 b):=dl 3 _ rfl
       have d4:wr.cell? ⟨gl,j * 6 + 4,none⟩=some (.int .i64 e):=dl 4 _ rfl
       have d5:wr.cell? ⟨gl,j * 6 + 5,none⟩=some (.int .i64 n):=dl 5 _ rfl
       have hlt':(j:Int) < (U.length:Int):=by omega
       have hgl2:=hI.l.lt
       have hfl:=hI.f.lt
       have f0:wr.cell? ⟨gf,0,none⟩=some (.int .i64 0):=hI.f.cell (i:=0) rfl
       have ix:=hI.x
       have ig:=hI.g
       have io:=hI.o
       rw [hM] at ix ig
       have HI:=hid hI
       clear hI dl h11 hM hin
       have b_30:=(Below.refl wr.heap.size wr)
       have s_30:=b_30.size
       have og_in:=own_in ig
       have og_30:=ig
       clear ig
       have oo_in:=own_in io
       have oo_30:=io
       clear io
       have x_30:=ix
       clear ix
       have x_lt:=x_30.lt
       have cell_x:=x_30.cell
       have froz_x:=x_30.frozen
       have lt_x:=x_30.lt
       have f0_30:=f0
       clear f0
       have lt_f0:gf < wr.heap.size:=by omega
       go_upto_region 14 with fail
       refine wp_forget1 (w0:=wr) (B:=wr.heap.size) (b0:=wr.heap.size) (t0:=73) (c0:=#[.int .i64 o,.int .i64 (d:Int),.int .i64 a,.int .i64 b,.int .i64 e,.int .i64 n]) ?_ ?_ ?_
       (focus exact blkcBy2)
       (focus (exact belBy))
       intro w31 q_31 hX31
       have sX31:=hX31.size
       have q_lt:=q_31.lt
       have b_31:=b_30.trans (hX31.mono (by omega))
       have og_31:=own_below og_30 hX31
       have oo_31:=own_below oo_30 hX31
       have x_31:=Blk.past hX31 x_30
       have f0_31:=cell_kept f0_30 hX31 (by dsimp only; omega)
       clear og_30 oo_30 x_30 f0_30 b_30 cell_x froz_x lt_x lt_f0 hX31
       have cell_x:=x_31.cell
       have froz_x:=x_31.frozen
       have lt_x:=x_31.lt
       have cell_q:=q_31.cell
       have froz_q:=q_31.frozen
       have lt_q:=q_31.lt
       have lt_f0:gf < w31.heap.size:=(by omega)
       have HRG:=hid ((HI.out.rg.below b_31).regs)
       clear d0 d1 d2 d3 d4 d5
       go_upto_region 16 with fail
       go_cut [13,14] (fun v13 v14 wx=>CutC N GS WS w31 v13 v14 wx)
       case first =>
        have gh_31:=hid (Below.refl w31.heap.size w31)
        go_region_held3 (fun w'=>w'.cell? ⟨bc,0,none⟩=some (.slice G M cg)∧w'.cell? ⟨bc,1,none⟩=some (.slice O 0 co)∧w'.cell? ⟨wr.heap.size,0,none⟩=some (.int .i64 o)∧w'.cell? ⟨wr.heap.size,1,none⟩=some (.int .i64 (d:Int))∧w'.cell? ⟨wr.heap.size,2,none⟩=some (.int .i64 a)∧w'.cell? ⟨wr.heap.size,3,none⟩=some (.int .i64 b)∧w'.cell? ⟨wr.heap.size,4,none⟩=some (.int .i64 e)∧w'.cell? ⟨wr.heap.size,5,none⟩=some (.int .i64 n)∧w'.cell? ⟨gf,0,none⟩=some (.int .i64 0)) ((refine ⟨(Blk.cell (t:=40) (cs:=#[.slice G M cg,.slice O 0 co]) ?qx 0),(Blk.cell ?qx 1),(Blk.cell (t:=73) (cs:=#[.int .i64 o,.int .i64 (d:Int),.int .i64 a,.int .i64 b,.int .i64 e,.int .i64 n]) ?qq 0),(Blk.cell ?qq 1),(Blk.cell ?qq 2),(Blk.cell ?qq 3),(Blk.cell ?qq 4),(Blk.cell ?qq 5),(by first | ((repeat (first | (with_reducible assumption) | (with_reducible refine cell_drew ?_) | (with_reducible refine cell_alloc ?_ (by first | (dsimp only; omega) | (simp; omega))) | (with_reducible refine cell_far ?_ (by first | (dsimp only; omega) | (simp; omega))))); done) | exact cell_kept f0_31 (by exact belBy) (by dsimp only; omega))⟩; (case qx=>(exact blkBy)); (case qq=>(exact blkBy)))) (first | (go_at_call 91; refine calls_forget1 (W:=w31) (b0:=w31.heap.size) (t0:=40) (c0:=#[.slice none 0 0,.slice none 0 0]) ?_ ?_ ?_; (focus exact blkcBy2); (focus (exact belBy)); intro X32 y_n hX32; have sX32:=hX32.size; have y_lt:=y_n.lt; refine (HCC.out _ _ _ _ _ (own_weak (own_below og_31 hX32) (Nat.zero_le _)) (own_weak (own_below oo_31 hX32) (Nat.zero_le _)) (HRG.out.below hX32)).mono ?_; rintro e w32 ⟨G2,cg2,O2,co2,g2,k2,rfl,pg_32,po_32,pw_32,hb32⟩; have s32:=hb32.size; have hT32:=hX32.trans (hb32.mono sX32); have b_32:=b_31.trans (hT32.mono (by omega)); have gh_32:=hid (gh_31.out.trans (hT32.mono (by omega))); have og_32:=own_below og_31 hT32; have oo_32:=own_below oo_31 hT32; have x_32:=Blk.past hT32 x_31; have q_32:=Blk.past hT32 q_31; have f0_32:=cell_kept f0_31 hT32 (by dsimp only; omega); have y_32:=Blk.past hb32 y_n; have pg_in:=own_in pg_32; have po_in:=own_in po_32; have pw_in:=own_in pw_32; clear gh_31 og_31 oo_31 x_31 q_31 f0_31 b_31 cell_x froz_x lt_x cell_q froz_q lt_q lt_f0 y_n hX32 hT32 hb32; have cell_x:=x_32.cell; have froz_x:=x_32.frozen; have lt_x:=x_32.lt; have cell_q:=q_32.cell; have froz_q:=q_32.frozen; have lt_q:=q_32.lt; have cell_y:=y_32.cell; have froz_y:=y_32.frozen; have lt_y:=y_32.lt; have lt_f0:gf < w32.heap.size:=(by omega)) | (go_at_call 91; refine calls_forget0 (W:=w31) ?_ ?_; (focus (exact belBy)); intro X32 hX32; have sX32:=hX32.size; refine (HCC.out _ _ _ _ _ (own_weak (own_below og_31 hX32) (Nat.zero_le _)) (own_weak (own_below oo_31 hX32) (Nat.zero_le _)) (HRG.out.below hX32)).mono ?_; rintro e w32 ⟨G2,cg2,O2,co2,g2,k2,rfl,pg_32,po_32,pw_32,hb32⟩; have s32:=hb32.size; have hT32:=hX32.trans (hb32.mono sX32); have b_32:=b_31.trans (hT32.mono (by omega)); have gh_32:=hid (gh_31.out.trans (hT32.mono (by omega))); have og_32:=own_below og_31 hT32; have oo_32:=own_below oo_31 hT32; have x_32:=Blk.past hT32 x_31; have q_32:=Blk.past hT32 q_31; have f0_32:=cell_kept f0_31 hT32 (by dsimp only; omega); have pg_in:=own_in pg_32; have po_in:=own_in po_32; have pw_in:=own_in pw_32; clear gh_31 og_31 oo_31 x_31 q_31 f0_31 b_31 cell_x froz_x lt_x cell_q froz_q lt_q lt_f0 hX32 hT32 hb32; have cell_x:=x_32.cell; have froz_x:=x_32.frozen; have lt_x:=x_32.lt; have cell_q:=q_32.cell; have froz_q:=q_32.frozen; have lt_q:=q_32.lt; have lt_f0:gf < w32.heap.size:=(by omega)))
        all_goals
         go_wp2_with fail
         go_meet
         first
         | exact ⟨w31.heap.size,G2,cg2,O2,co2,g2,k2,rfl,rfl,by first | exact Nat.le_refl _ | omega,by exact blkcBy2,⟨own_weak (base:=X32.heap.size) (by repeat (first | (with_reducible assumption) | (with_reducible apply World.ownsRow.drew) | (with_reducible apply own_drewN) | (with_reducible apply World.ownsRow.alloc) | (with_reducible refine own_set ?_ _ _ (by first | omega | (simp; omega) | (dsimp only; omega))))) (by omega),own_weak (base:=X32.heap.size) (by repeat (first | (with_reducible assumption) | (with_reducible apply World.ownsRow.drew) | (with_reducible apply own_drewN) | (with_reducible apply World.ownsRow.alloc) | (with_reducible refine own_set ?_ _ _ (by first | omega | (simp; omega) | (dsimp only; omega))))) (by omega),own_weak (base:=X32.heap.size) (by repeat (first | (with_reducible assumption) | (with_reducible apply World.ownsRow.drew) | (with_reducible apply own_drewN) | (with_reducible apply World.ownsRow.alloc) | (with_reducible refine own_set ?_ _ _ (by first | omega | (simp; omega) | (dsimp only; omega))))) (by omega)⟩,by have gq:=gh_32.out; exact belBy⟩
         | exact ⟨w32.heap.size,G2,cg2,O2,co2,g2,k2,rfl,rfl,by first | exact Nat.le_refl _ | omega,by exact blkcBy2,⟨own_weak (base:=X32.heap.size) (by repeat (first | (with_reducible assumption) | (with_reducible apply World.ownsRow.drew) | (with_reducible apply own_drewN) | (with_reducible apply World.ownsRow.alloc) | (with_reducible refine own_set ?_ _ _ (by first | omega | (simp; omega) | (dsimp only; omega))))) (by omega),own_weak (base:=X32.heap.size) (by repeat (first | (with_reducible assumption) | (with_reducible apply World.ownsRow.drew) | (with_reducible apply own_drewN) | (with_reducible apply World.ownsRow.alloc) | (with_reducible refine own_set ?_ _ _ (by first | omega | (simp; omega) | (dsimp only; omega))))) (by omega),own_weak (base:=X32.heap.size) (by repeat (first | (with_reducible assumption) | (with_reducible apply World.ownsRow.drew) | (with_reducible apply own_drewN) | (with_reducible apply World.ownsRow.alloc) | (with_reducible refine own_set ?_ _ _ (by first | omega | (simp; omega) | (dsimp only; omega))))) (by omega)⟩,by have gq:=gh_32.out; exact belBy⟩
       case rest =>
        obtain ⟨b_y,G2,cg2,O2,co2,g2,k2,rfl,rfl,y_ge,y_33,⟨pg_33,po_33,pw_33⟩,hb33⟩:=hcut
        obtain ⟨w33,rfl⟩:∃ z:World,z=wc:=⟨_,rfl⟩
        have s33:=hb33.size
        have b_33:=b_31.trans (hb33.mono (by omega))
        have og_33:=own_below og_31 hb33
        have oo_33:=own_below oo_31 hb33
        have x_33:=Blk.past hb33 x_31
        have q_33:=Blk.past hb33 q_31
        have f0_33:=cell_kept f0_31 hb33 (by dsimp only; omega)
        clear og_31 oo_31 x_31 q_31 f0_31 b_31 cell_x froz_x lt_x cell_q froz_q lt_q lt_f0 hb33
        have y_lt:=y_33.lt
        have pg_in:=own_off pg_33 y_33 (by decide)
        have po_in:=own_off po_33 y_33 (by decide)
        have pw_in:=own_off pw_33 y_33 (by decide)
        have cell_x:=x_33.cell
        have froz_x:=x_33.frozen
        have lt_x:=x_33.lt
        have cell_q:=q_33.cell
        have froz_q:=q_33.frozen
        have lt_q:=q_33.lt
        have cell_y:=y_33.cell
        have froz_y:=y_33.frozen
        have lt_y:=y_33.lt
        have lt_f0:gf < w33.heap.size:=(by omega)
        have hb33:=b_33
        have hI33:=HI.out
        go_upto_region 18 with fail
        refine wp_set2 x_33 ?_
        intro w34 x34 t34
        have hW:=LoopI.word hI33 hb33 HN.out.2 (own_weak pg_33 sX31) (own_weak po_33 sX31) (own_weak pw_33 sX31) x34 t34 (d:=d) (by omega)
        obtain ⟨bx,ox,cx,qd,_,_,_⟩:=((hI33.rg.below hb33).touch t34 x_33 (by decide) (by decide)).at_ (List.getElem?_eq_getElem (show d < cj.r.length by omega))
        have frd:=((hI33.rg.below hb33).touch t34 x_33 (by decide) (by decide)).froz d
        have lrd:=((hI33.rg.below hb33).touch t34 x_33 (by decide) (by decide)).lt
        have hcp:=hI33.rg.cap
        have d8:(d:Int) < 8:=by omega
        have q34:w34.cell? ⟨wr.heap.size,1,none⟩=some (.int .i64 (d:Int)):=(Blk.touch t34 q_33 (by simp; omega)).cell 1
        have HW:=hid hW
        clear hW hI33 HI x_33 y_33 q_33 og_33 oo_33 pg_33 po_33 pw_33 b_33 hb33 x34 t34 cell_x froz_x cell_y froz_y cell_q froz_q HRG HCC
        go_wp2
        go_roundw
        case rel=>exact ⟨j + 1,G2,cg2,O2,co2,gO,kO,by omega,by go_num,by rw [HN.out.1],by rw [HN.out.1]; exact HW.out⟩
        case measure=>simp [intOf]; omega
     ·obtain rfl:j=U.length:=by omega
      have hcu:compC (U.take U.length)=compC U:=by rw [List.take_length]
      rw [hcu] at hI ⊢
      have HCC:=hid HC.out
      obtain ⟨cj,hcj⟩:∃ c,compC U=c:=⟨_,rfl⟩
      rw [hcj] at hI HCC ⊢
      have cell_x:=hI.x.cell
      have froz_x:=hI.x.frozen
      have lt_x:=hI.x.lt
      have cell_r:=hI.r.cell
      have froz_r:=hI.r.frozen
      have lt_r:=hI.r.lt
      have hne:bc≠w.heap.size:=by omega
      have hne2:w.heap.size≠bc:=by omega
      have HI:=hid hI
      clear hI hok hcj hcu HC
      go_wp2
      ((try simp only [Exit.inBlock,Exit.then]); apply bodyPost_ret0; focus ((try simp only [results,Tryz.results45]); (try go_simp); (try rfl)))
      rw [HCC.out]
      refine give_comp HI.out.x HI.out.r (own_weak HI.out.g (Nat.le_refl _)) (Row.own HI.out.out HI.out.lo) HI.out.b (by omega) (by exact tchBy)
open Go.RowKit
theorem RegsV.stay {w w':World} {g n c T lo:Nat} {rs:List (List Int)} {v:Value} (h:RegsV w g n c rs v) (hs:Stay T lo w w') (h1:3≠T) (h2:30≠T):RegsV w' g n c rs v :=
 h.move (fun _ hr=>hs.row hr h2 (by decide)) fun _ _ _ hq hx=>⟨hx.stay hs h1,hq⟩
theorem RegsV.grownV {w w':World} {g n c lo e m:Nat} {rs:List (List Int)} {v v':Value} {vs:List Value} (h:RegsV w g n c rs v) (hg:w.grownBy w' v.ownBlock) (hr:w.ownsRow lo e 1 v m vs) (he:e≠30) (hq:∀ q,v'.ownBlock=some q→v.ownBlock=some q∨w.heap.size≤q):RegsV w' g n c rs v':=by
 refine h.move (fun _ hr2=>gr_own hg hr2 fun q p hq hp=>own_ne hr hr2 he q p hq hp) fun b off ws hb hx=>⟨?_,fun p hp=>?_⟩
 ·have hlt:=hx.lt
  obtain ⟨b',off',cs,m,e,hh,hc⟩:=hx
  injection e with e
  injection e with e1 e2
  subst e1 e2
  exact ⟨b,off,cs,m,rfl,(hg.block b hlt (fun e=>hb b e.symm rfl)).trans hh,hc⟩
 ·rcases hq p hp with h | h
  ·exact hb p h
  ·have:=hx.lt
   omega
theorem Wd.grownV {w w':World} {b off:Nat} {xs:List Int} {row:Option Nat} (h:Wd w (some ⟨b,off,none⟩) xs) (hg:w.grownBy w' row) (hne:∀ q,row=some q→b≠q):Wd w' (some ⟨b,off,none⟩) xs:=by
 have hlt:=h.lt
 obtain ⟨b',off',cs,m,e,hh,hc⟩:=h
 injection e with e
 injection e with e1 e2
 subst e1 e2
 exact ⟨b,off,cs,m,rfl,(hg.block b hlt (fun e=>hne b e.symm rfl)).trans hh,hc⟩
theorem step_int_any {w:World} {ops:Array Oper} {o:Oper} {a:Act} {K:Act→World→Prop} {Q:Exit→Act→World→Prop} {E:Prop} (hgd:o.guard=none) (s x:Operand) (ho:o.op=.call { callee:=.builtin .append,args:=#[s,x],argTypes:=#[30,30] })
  {base n:Nat} {v:Value} {L:List Int} (hs:a.eval s=v) (hown:w.ownsRow base 3 1 v n (ints L)) (hbase:base≤w.heap.size) {b off m k:Nat} (M:List Int) (hx:a.eval x=.slice (some ⟨b,off,none⟩) m k) (hl:M.length=m)
  (hc:∀ j u,(ints M)[j]? = some u→w.cell? ⟨b,off + j,none⟩=some u) (hm:0 < m) (hb:n + m≤1000000)
  (h:∀ g' c' w',w'.ownsRow base 3 1 (.slice (some ⟨g',0,none⟩) (n + m) c') (n + m) (ints (L ++ M))→w.grownBy w' v.ownBlock→(v.ownBlock=some g'∨g'=w.heap.size)→K (a.put o.dst (.slice (some ⟨g',0,none⟩) (n + m) c')) w') :
  if Region.wanted o (yielded ops a.tmps)=true then Oper.wp Tryz.prog o a w K Q else E:=by
 obtain ⟨i,hi,hz0,hz1,hz2⟩:=info_parts infoI
 refine step_append_lies w hgd s x _ ho base _ i _ 1 8 Tryz.underlying30 hi hz0 hz1 hz2 rfl (by decide) _ n (ints L) hs hown ⟨b,off,none⟩ m k (ints M) hx (by rw [ints_length,hl,Nat.mul_one]) (cells_add hc) (ints_one _) hm (by unfold maxLen; omega) (by omega) hbase _ rfl ?_
 intro g' c' w' h1 h2 h3 _
 exact h g' c' w' (by rw [ints_app]; exact h1) h2 h3
structure LoopS (w:World) (U:List St) (bc gr kr gf gl kl:Nat) (c:Cs) (A:Option Addr) (kO:Nat) (wr:World):Prop where
 x:Bld TS wr (w.heap.size + 1) bc c.g (.slice A c.o.length kO)
 r:Blk wr w.heap.size TS #[.slice none 0 0,.slice none 0 0]
 rg:RegsV wr gr 8 kr c.r (.slice A c.o.length kO)
 out:wr.ownsRow (w.heap.size + 1) 3 1 (.slice A c.o.length kO) c.o.length (ints c.o)
 f:Wd wr (some ⟨gf,0,none⟩) (upW 0 4)
 ne:∀ q,(Value.slice A c.o.length kO).ownBlock=some q→gf≠q
 l:RowS wr gl U.length kl U
 b:Below w.heap.size w wr
 lg:w.heap.size≤gr
theorem LoopS.app {w:World} {U:List St} {bc gr kr gf gl kl:Nat} {c:Cs} {A:Option Addr} {kO:Nat} {wr w5:World} (h:LoopS w U bc gr kr gf gl kl c A kO wr) {G:Option Addr} {cg:Nat} (hx:Blk wr bc TS #[.slice G c.g.length cg,.slice A c.o.length kO]) (hg1:wr.ownsRow (w.heap.size + 1) TG 3 (.slice G c.g.length cg) c.g.length (ints (flatG c.g)))
  {ws:List Int} {g' k':Nat} (h1:w5.ownsRow (w.heap.size + 1) 3 1 (.slice (some ⟨g',0,none⟩) (c.o.length + 4) k') (c.o.length + 4) (ints (c.o ++ ws))) (hw:ws.length=4) (h2:wr.grownBy w5 (Value.slice A c.o.length kO).ownBlock) (h3:(Value.slice A c.o.length kO).ownBlock=some g'∨g'=wr.heap.size) :
  LoopS w U bc gr kr gf gl kl ⟨c.g,c.r,c.o ++ ws⟩ (some ⟨g',0,none⟩) k' (w5.setCell ⟨bc,1,none⟩ (.slice (some ⟨g',0,none⟩) (c.o.length + 4) k')):=by
 have hl:(c.o ++ ws).length=c.o.length + 4:=by rw [List.length_append,hw]
 have hsz:=h.b.size
 obtain ⟨_,_,_,hbc,_⟩:=h.x
 have hlo:=own_in h.out
 have x5:=gr_blk h2 hx (own_ne_obj h.out hx (by decide))
 have r5:=gr_blk h2 h.r (own_ne_obj h.out h.r (by decide))
 have g5:=gr_own h2 hg1 (fun q p hq hp=>own_ne h.out hg1 (by decide) q p hq hp)
 have l5:RowS w5 gl U.length kl U:=gr_own h2 h.l (fun q p hq hp=>own_ne h.out h.l (by decide) q p hq hp)
 have f5:=h.f.grownV h2 h.ne
 have b5:Below w.heap.size w w5:=gr_below h2 h.b hsz (fun q hq=>by have:=(hlo q hq).1; omega)
 have nq:∀ q,(Value.slice (some ⟨g',0,none⟩) (c.o.length + 4) k').ownBlock=some q→(Value.slice A c.o.length kO).ownBlock=some q∨wr.heap.size≤q:=fun q hq=>by
  have:=own_here q hq
  subst this
  rcases h3 with h3 | h3
  ·exact .inl h3
  ·exact .inr (by omega)
 have rg5:=h.rg.grownV (v':=.slice (some ⟨g',0,none⟩) (c.o.length + 4) k') h2 h.out (by decide) nq
 have t5:Touch [bc] w5 (w5.setCell ⟨bc,1,none⟩ (.slice (some ⟨g',0,none⟩) (c.o.length + 4) k')):=(Touch.refl _ _).set_ _ _ (by simp)
 have hm:∀ q,q≠bc→q ∉ [bc]:=fun q hq=>by simp [hq]
 have hne:∀ q,(Value.slice (some ⟨g',0,none⟩) (c.o.length + 4) k').ownBlock=some q→gf≠q:=fun q hq=>by
  rcases nq q hq with e | e
  ·exact h.ne q e
  ·have:=h.f.lt
   omega
 refine ⟨⟨G,cg,?_,hbc,own_touch' t5 g5 (fun q hq=>hm q (own_ne_obj g5 x5 (by decide) q hq))⟩,Blk.touch t5 r5 (hm _ (by omega)),?_,?_,f5.touch t5 (hm _ (f5.not_blk x5 (by decide))),by rw [hl]; exact hne,Row.touch l5 t5 (hm _ (l5.not_blk x5 (by decide))),t5.below' b5 (fun i hi=>by simp at hi; omega) b5.size,h.lg⟩
 ·rw [hl]
  exact x5.set_ 1 _
 ·rw [hl]
  exact rg5.touch t5 x5 (by decide) (by decide)
 ·rw [hl]
  exact own_touch' t5 h1 (fun q hq=>hm q (own_ne_obj h1 x5 (by decide) q hq))
theorem LoopS.word {w:World} {U:List St} {bc gr kr gf gl kl:Nat} {c:Cs} {A:Option Addr} {kO:Nat} {wr w3:World} (h:LoopS w U bc gr kr gf gl kl c A kO wr) {gs:List Gt} {ws:List Int} {g2 k2:Nat} (hge:wr.heap.size≤g2)
  (k3:RowI w3 g2 4 k2 ws) (k1:Bld TS w3 (w.heap.size + 1) bc gs (.slice A c.o.length kO)) (k2':Stay TS (w.heap.size + 1) wr w3) {d:Nat} (hd:d < c.r.length) :
  LoopS w U bc gr kr gf gl kl ⟨gs,c.r.set d ws,c.o⟩ A kO (w3.setCell ⟨gr,d,none⟩ (.slice (some ⟨g2,0,none⟩) 4 k2)):=by
 have hsz:=h.b.size
 have hrl:=h.r.lt
 have rg3:=h.rg.stay k2' (by decide) (by decide)
 have out3:=k2'.own h.out (by decide) (by decide)
 have f3:=h.f.stay k2' (by decide)
 have l3:=k2'.row h.l (by decide) (by decide)
 have r3:Blk w3 w.heap.size TS #[.slice none 0 0,.slice none 0 0]:=(k2'.block _ hrl (.inl (by omega))).trans h.r
 have b3:Below w.heap.size w w3:=h.b.trans ((k2'.below (by omega)).mono (by omega))
 obtain ⟨rg5,hg5⟩:=rg3.set_ (b:=g2) (off:=0) (k:=k2) hd k3.cap (fun q hq=>by have:=(own_in h.out q hq).2; omega) (Wd.of_row k3)
 obtain ⟨vals,hrow,_⟩:=rg3
 have nrow:∀ {e m k q s:Nat} {xs:List Value},Row w3 q e s m k xs→e≠30→q≠gr:=fun {e m k q s xs} hq he e2=>by
  subst e2
  obtain ⟨_,c1,k1,_⟩:=hrow.parts
  obtain ⟨_,c2,k3,_⟩:=hq.parts
  rw [k1] at k3
  injection k3 with k3
  injection k3 with _ k3 _
  exact he k3.symm
 refine ⟨?_,r3.far (fun e=>hrow.not_blk r3 (by decide) e.symm) _,rg5,own_setne out3 (fun q hv=>own_ne out3 hrow (by decide) q gr hv rfl),f3.grown hg5 (f3.not_ rfl hrow (by decide)),h.ne,l3.grown hg5 (nrow l3 (by decide)),below_apps b3 hg5 b3.size h.lg,h.lg⟩
 obtain ⟨G,cg,q1,q2,q3⟩:=k1
 exact ⟨G,cg,q1.far (fun e=>hrow.not_blk q1 (by decide) e.symm) _,q2,own_setne q3 (fun q hv=>own_ne q3 hrow (by decide) q gr hv rfl)⟩
set_option linter.unusedVariables false in
set_option maxRecDepth 100000 in
set_option maxHeartbeats 3200000 in
theorem sCompile (A:Option Addr) (c:Nat) (L:List St) (w:World) (hc:Cells w w.heap.size A (ints (flatS L))) (hn:L.length≤1000000000) :
  Calls Tryz.prog 17 #[.slice A L.length c] w (GivesC w (unrB L) (compL L).g (compL L).o):=by
 have HU:=hid (fun w hc=>sUnroll A c L w hc hn)
 have hok:=comp_ok L
 have hul:=unrL_len L
 have hus:=unrL_ok L
 cases hu:unrB L
 ·have HC:=hid (comp_no hu)
  rw [hu] at HU
  clear hu hok hul hus
  go_enter Tryz.func17,Tryz.ntmps17
  have b_0:=(Below.refl w.heap.size w)
  have s_0:=b_0.size
  have l_0:=hc
  clear hc
  go_upto_region 1 with fail
  refine wp_forget1 (w0:=w) (B:=w.heap.size) (b0:=w.heap.size) (t0:=40) (c0:=#[.slice none 0 0,.slice none 0 0]) ?_ ?_ ?_
  (focus exact blkcBy2)
  (focus (exact belBy))
  intro w1 r_1 hX1
  have sX1:=hX1.size
  have r_lt:=r_1.lt
  have b_1:=b_0.trans (hX1.mono (by omega))
  have l_1:=cells_below l_0 hX1 (by omega)
  clear l_0 b_0 hX1
  have cell_r:=r_1.cell
  have froz_r:=r_1.frozen
  have lt_r:=r_1.lt
  have HL:=hid (And.intro l_1 (And.intro b_1 r_1))
  clear l_1 b_1 r_1
  go_wp2_with fail
  refine Calls.mono (HU.out _ (HL.out.1.more (by omega))) ?_
  rintro e w2 ⟨gl,kl,rfl,_,_,hb⟩
  have z2:=hb.size
  have hr:=HL.out.2.2.past hb
  have hb2:=HL.out.2.1.trans (hb.mono (by omega))
  have cell_r2:=hr.cell
  have froz_r2:=hr.frozen
  have lt_r2:=hr.lt
  have HF:=hid (And.intro hb2 hr)
  clear hb hr hb2 cell_r froz_r lt_r
  go_wp2
  ((try simp only [Exit.inBlock,Exit.then]); apply bodyPost_ret0; focus ((try simp only [results,Tryz.results17]); (try go_simp); (try rfl)))
  rw [HC.out]
  refine ⟨none,0,none,0,rfl,own_none,own_none,?_⟩
  have hb2:=HF.out.1
  exact belBy
 ·have HC:=hid (comp_yes hu)
  rw [hu] at HU
  clear hu
  obtain ⟨U,hU⟩:∃ U,unrL L=U:=⟨_,rfl⟩
  rw [hU] at HU HC hok hul hus
  clear hU
  have HT:=hid (ok_take hus)
  have HV:=hid hus
  clear hus hok
  go_enter Tryz.func17,Tryz.ntmps17
  have b_0:=(Below.refl w.heap.size w)
  have s_0:=b_0.size
  have l_0:=hc
  clear hc
  go_upto_region 1 with fail
  refine wp_forget1 (w0:=w) (B:=w.heap.size) (b0:=w.heap.size) (t0:=40) (c0:=#[.slice none 0 0,.slice none 0 0]) ?_ ?_ ?_
  (focus exact blkcBy2)
  (focus (exact belBy))
  intro w1 r_1 hX1
  have sX1:=hX1.size
  have r_lt:=r_1.lt
  have b_1:=b_0.trans (hX1.mono (by omega))
  have l_1:=cells_below l_0 hX1 (by omega)
  clear l_0 b_0 hX1
  have cell_r:=r_1.cell
  have froz_r:=r_1.frozen
  have lt_r:=r_1.lt
  have HL:=hid (And.intro l_1 (And.intro b_1 r_1))
  clear l_1 b_1 r_1
  go_wp2_with fail
  refine Calls.mono (HU.out _ (HL.out.1.more (by omega))) ?_
  rintro e w2 ⟨gl,kl,rfl,hgl,hrw,hb⟩
  have z2:=hb.size
  have hr:=HL.out.2.2.past hb
  have hb2:=HL.out.2.1.trans (hb.mono (by omega))
  have HF:=hid (And.intro hb2 hrw)
  clear hb hb2 hrw cell_r froz_r lt_r HL HU
  have b_2:=(Below.refl w2.heap.size w2)
  have s_2:=b_2.size
  have r_2:=hr
  clear hr
  have r_lt:=r_2.lt
  have cell_r:=r_2.cell
  have froz_r:=r_2.frozen
  have lt_r:=r_2.lt
  go_upto_region 3 with fail
  refine wp_forget1 (w0:=w2) (B:=w2.heap.size) (b0:=w2.heap.size) (t0:=40) (c0:=#[.slice none 0 0,.slice none 0 0]) ?_ ?_ ?_
  (focus exact blkcBy2)
  (focus (exact belBy))
  intro w3 x_3 hX3
  have sX3:=hX3.size
  have x_lt:=x_3.lt
  have b_3:=b_2.trans (hX3.mono (by omega))
  have r_3:=Blk.past hX3 r_2
  clear r_2 b_2 cell_r froz_r lt_r hX3
  have cell_r:=r_3.cell
  have froz_r:=r_3.frozen
  have lt_r:=r_3.lt
  have cell_x:=x_3.cell
  have froz_x:=x_3.frozen
  have lt_x:=x_3.lt
  have hB3:Bld TS w3 (w.heap.size + 1) w2.heap.size [] (.slice none 0 0):=⟨none,0,x_3,by omega,own_none⟩
  have H3:=hid (And.intro hB3 (And.intro r_3 (And.intro (HF.out.1.trans (b_3.mono (by omega))) (HF.out.2.below b_3))))
  have z3:=b_3.size
  clear hB3 r_3 b_3 x_3 HF
  go_wp2_with fail
  refine Calls.mono (sConst (gs:=[]) 0 _ H3.out.1 (by simp) (by omega)) ?_
  rintro e w4 ⟨gf,kf,rfl,hgf,k3,k1,k2⟩
  have z4:=k2.size
  have hr4:Blk w4 w.heap.size TS #[.slice none 0 0,.slice none 0 0]:=(k2.block _ H3.out.2.1.lt (.inl (by omega))).trans H3.out.2.1
  have H4:=hid (And.intro k1 (And.intro hr4 (And.intro k3 (And.intro (k2.row H3.out.2.2.2 (by decide) (by decide)) (H3.out.2.2.1.trans ((k2.below (by omega)).mono (by omega)))))))
  have hfn:=k3.lt
  clear k1 k2 k3 hr4 H3 cell_r froz_r lt_r cell_x froz_x lt_x
  go_upto_region 7 with fail
  obtain ⟨w5,hw5⟩:∃ w5,w5=w4.alloc (.cells #[] 30):=⟨_,rfl⟩
  have hb:Below w4.heap.size w4 w5:=by rw [hw5]; exact (Below.refl _ _).alloc (Nat.le_refl _) _
  have ho5:Row w5 w4.heap.size 30 1 0 0 []:=by rw [hw5]; exact Row.new #[] (Nat.zero_le _) rfl rfl
  rw [←hw5]
  have H5:=hid (And.intro ho5 hb)
  clear ho5 hb hw5
  go_wp2_with fail
  go_loopw [8,9] (fun o i wr=>∃ (m g k:Nat),m≤8∧i=.int .i64 (m:Int)∧o=.slice (some ⟨g,0,none⟩) m k∧w4.heap.size≤g∧Row wr g 30 1 m k (List.replicate m (.slice (some ⟨gf,0,none⟩) 4 kf))∧Below w4.heap.size w4 wr) (fun _ i _=>8 - (intOf i).toNat)
  case atStart=>exact ⟨0,w4.heap.size,0,Nat.zero_le _,rfl,rfl,Nat.le_refl _,H5.out.1,H5.out.2⟩
  case round =>
   clear H5
   obtain ⟨m,g,k,hm,rfl,rfl,hg,hR,hb⟩:=hrel
   have zr:=hb.size
   have HR:=hid (And.intro hR hb)
   have hgr:=hR.lt
   have hk8:=hR.cap
   clear hR hb
   by_cases hlt:m < 8
   ·have hlt':(m:Int) < 8:=by omega
    go_wp2_with (at_builtin; refine wpList_apps rfl _ _ 25 rfl 30 (.slice none 0 0) 1 24 Tryz.underlying25 infoW rfl (by decide) rfl (HR.out.1.alloc _) ⟨wr.heap.size,0,none⟩ 1 1 [.slice (some ⟨gf,0,none⟩) 4 kf] rfl rfl (one_new _ _ _) (by intro u hu; simp at hu; subst hu; rfl) (by omega) (by decide) ?_)
    intro g' k' w6 h1 h2 h3
    have h2:=grown_alloc h2
    have hg':w4.heap.size≤g':=by (try simp at h3); omega
    have H6:=hid (And.intro h1 (below_apps HR.out.2 h2 zr hg))
    clear h1 h2 h3 HR
    go_wp2
    go_roundw
    case rel=>exact ⟨m + 1,g',k',by omega,by go_num,rfl,hg',by rw [List.replicate_succ']; exact H6.out.1,H6.out.2⟩
    case measure=>simp [intOf]; omega
   ·obtain rfl:m=8:=by omega
    rw [show ((8:Nat):Int)=8 from rfl]
    have q4:=HR.out.2
    have H7:=hid (show LoopS w U w2.heap.size g k gf gl kl cs0 none 0 wr from
     ⟨H4.out.1.below q4,H4.out.2.1.past q4,(regs_new (q:=wr.heap.size) (n:=0) (c:=0) HR.out.1 (ws:=upW 0 4) (H4.out.2.2.1.below q4) (by omega)).move (fun _ h=>h) (fun _ _ _ _ h=>⟨h,fun q hq=>by cases hq⟩),own_none,Wd.of_row (H4.out.2.2.1.below q4),(fun q hq=>by cases hq),H4.out.2.2.2.1.below q4,
      H4.out.2.2.2.2.trans (q4.mono (by omega)),by omega⟩)
    have hbx:w.heap.size < w2.heap.size:=by omega
    clear q4 H4 HR
    obtain ⟨bc,hbc⟩:∃ n,w2.heap.size=n:=⟨_,rfl⟩
    rw [hbc] at H7 hbx ⊢
    clear hbc
    go_wp2_with fail
    go_loopw [10] (fun i wr=>∃ (j:Nat) (A:Option Addr) (kO:Nat),j≤U.length∧i=.int .i64 (j:Int)∧LoopS w U bc g k gf gl kl (compC (U.take j)) A kO wr) (fun i _=>U.length - (intOf i).toNat)
    case atStart=>exact ⟨0,none,0,Nat.zero_le _,rfl,H7.out⟩
    case round =>
     clear H7
     obtain ⟨j,A,kO,hj,rfl,hI⟩:=hrel
     have hok:=HT.out j hj
     by_cases hlt:j < U.length
     ·obtain ⟨s,hx⟩:∃ s,U[j]? = some s:=⟨_,List.getElem?_eq_getElem hlt⟩
      have hv:=HV.out s (List.mem_of_getElem? hx)
      have hst:compC (U.take (j + 1))=stepC (compC (U.take j)) s:=compC_at hx
      obtain ⟨cj,hcj⟩:∃ c,compC (U.take j)=c:=⟨_,rfl⟩
      rw [hcj] at hI hok hst
      have hin:=stmt_in hv.1
      have HS:=hid hst
      have HOK:=hid hok
      have HV2:=hid hv
      have HDL:=hid (fun (t:Nat) (x:Int) (hx2:(sixS s)[t]? = some x)=>(ints_get (flatS_at hx t x hx2):(ints (flatS U))[j * 6 + t]? = some (.int .i64 x)))
      clear hx hst hcj hok hv
      by_cases h11:s.o=11
      ·have hR:=hin.2.2.1
       obtain ⟨o,d,a,b,e,n⟩:=s
       obtain rfl:o=11:=h11
       dsimp only at hR
       obtain ⟨a,rfl⟩:=Int.eq_ofNat_of_zero_le hR.1
       have ha8:(a:Int) < 8:=by omega
       have ha0:(0:Int)≤(a:Int):=by omega
       have j00:(0:Int)≤(j:Int):=by omega
       obtain ⟨ea,wa⟩:=HOK.out.reg hR
       rw [Int.toNat_natCast] at ea
       obtain ⟨bx,ox,cx,qx,kx,nx,dx⟩:=hI.rg.at_ ea
       have x4:=word_len wa
       have hoh:=HOK.out.oh
       have d0:wr.cell? ⟨gl,j * 6,none⟩=some (.int .i64 11):=hI.l.cell (HDL.out 0 _ rfl)
       have d2:wr.cell? ⟨gl,j * 6 + 2,none⟩=some (.int .i64 (a:Int)):=hI.l.cell (HDL.out 2 _ rfl)
       have hlt':(j:Int) < (U.length:Int):=by omega
       have hgrl:=hI.rg.lt
       have hgl2:=hI.l.lt
       have hcp:=hI.rg.cap
       obtain ⟨G,cg,hbx1,_,hg1⟩:=hI.x
       have cell_x:=hbx1.cell
       have froz_x:=hbx1.frozen
       have lt_x:=hbx1.lt
       have hst:stepC cj ⟨11,d,(a:Int),b,e,n⟩=⟨cj.g,cj.r,cj.o ++ regL cj.r (a:Int)⟩:=rfl
       have HI:=hid (And.intro hI (HS.out.trans hst))
       have HW:=hid (And.intro dx (And.intro x4 (And.intro hbx1 hg1)))
       clear hI ea hst HS dx wa x4 hin nx HV2 HDL HOK hbx1 hg1
       go_upto_region 15 with fail
       obtain ⟨WS,hWS⟩:∃ l,regL cj.r (a:Int)=l:=⟨_,rfl⟩
       rw [hWS] at HI HW
       have hw4:=HW.out.2.1
       have hwc:=hid (wd_all HW.out.1)
       have hout:=HI.out.1.out
       have hb1:cj.o.length + 4≤1000000:=by omega
       have hbl:w.heap.size + 1≤wr.heap.size:=by omega
       have hbk:=HW.out.2.2.1
       have hne1:=hid (own_ne_obj hout hbk (by decide))
       go_region_law (refine step_int_any rfl (.tmp 43) (.tmp 51) rfl (v:=Value.slice A cj.o.length kO) rfl (own_heap hout rfl) hbl WS rfl hw4 hwc.out (by decide) hb1 ?_; intro g' c' w5 ho5 hg5 hl5; have kx5:=gr_blk hg5 (Blk.heap hbk rfl) hne1.out; have cell_5:=kx5.cell; have froz_5:=kx5.frozen; have lt_5:=kx5.lt)
       all_goals
        have HF:=hid (LoopS.app HI.out.1 HW.out.2.2.1 HW.out.2.2.2 ho5 hw4 ⟨hg5.os,hg5.tape,hg5.output,hg5.size,hg5.block⟩ hl5)
        clear ho5 hg5 hl5 kx5 cell_5 froz_5 lt_5 hout hbk
        go_wp2
        go_roundw
        case rel=>exact ⟨j + 1,some ⟨g',0,none⟩,c',by omega,by go_num,by rw [HI.out.2]; exact HF.out⟩
        case measure=>simp [intOf]; omega
      ·have hp:=stmt_plain HV2.out.1 h11 HV2.out.2.1 HV2.out.2.2
       have hst:stepC cj s=⟨(wordP cj.g cj.r 0 s).1,cj.r.set s.d.toNat (wordP cj.g cj.r 0 s).2,cj.o⟩:=by unfold stepC; rw [if_neg h11]
       have HCC:=hid (fun X hB hr=>sWord (lo:=w.heap.size + 1) (bp:=bc) (gr:=g) (kr:=k) (O:=.slice A cj.o.length kO) s X hB hr HOK.out (by omega) hp)
       have hr8:=HOK.out.r
       have hdd:=hp.d
       obtain ⟨GS,hGS⟩:∃ l,(wordP cj.g cj.r 0 s).1=l:=⟨_,rfl⟩
       obtain ⟨WS,hWS⟩:∃ l,(wordP cj.g cj.r 0 s).2=l:=⟨_,rfl⟩
       rw [hGS,hWS] at HCC hst
       have HN:=hid (HS.out.trans hst)
       clear hGS hWS hst HS hp HV2 HOK
       obtain ⟨o,d,a,b,e,n⟩:=s
       dsimp only at h11 hdd HCC HN HDL hin
       obtain ⟨d,rfl⟩:=Int.eq_ofNat_of_zero_le hdd.1
       rw [Int.toNat_natCast] at HN
       have e11:(o == 11)=false:=by simpa using h11
       have G0:=HDL.out 0 o rfl
       have G1:=HDL.out 1 (d:Int) rfl
       have G2:=HDL.out 2 a rfl
       have G3:=HDL.out 3 b rfl
       have G4:=HDL.out 4 e rfl
       have G5:=HDL.out 5 n rfl
       have d0:wr.cell? ⟨gl,j * 6,none⟩=some (.int .i64 o):=hI.l.cell G0
       have hlt':(j:Int) < (U.length:Int):=by omega
       have hul':(U.length:Int)≤120:=by omega
       have hgl2:=hI.l.lt
       have hfl:=hI.f.lt
       have hgrl:=hI.rg.lt
       have hcp:=hI.rg.cap
       have d8:(d:Int) < 8:=by omega
       have d00:(0:Int)≤(d:Int):=by omega
       have j00:(0:Int)≤(j:Int):=by omega
       have hgG:=hid (And.intro G0 (And.intro G1 (And.intro G2 (And.intro G3 (And.intro G4 G5)))))
       clear G0 G1 G2 G3 G4 G5 h11 hin HDL
       have HI:=hid hI
       clear hI
       go_upto_region 16 with fail
       obtain ⟨vals,hrow,hvals⟩:=HI.out.rg
       obtain ⟨bv,ov,kv,hvd,_,_,_⟩:=hvals d _ (List.getElem?_eq_getElem (show d < cj.r.length by omega))
       have G0:=hgG.out.1
       have G1:=hgG.out.2.1
       have G2:=hgG.out.2.2.1
       have G3:=hgG.out.2.2.2.1
       have G4:=hgG.out.2.2.2.2.1
       have G5:=hgG.out.2.2.2.2.2
       have hl1:=HI.out.l
       have d1:=hl1.cell G1
       have d2:=hl1.cell G2
       have d3:=hl1.cell G3
       have d4:=hl1.cell G4
       have d5:=hl1.cell G5
       have hf1:=HI.out.f
       have hf0:(upW 0 4)[0]? = some (0:Int):=rfl
       have f0:wr.cell? ⟨gf,0,none⟩=some (.int .i64 0):=hf1.cell hf0
       have hB1:=HI.out.x
       have hr1:=HI.out.rg.regs
       have HCC:=HCC.out
       have hti:3≠TS:=by decide
       have hzt:30≠TS:=by decide
       have hzg:30≠TG:=by decide
       have hst1:73≠TS:=by decide
       have hsg1:73≠TG:=by decide
       have ngl:g≠gl:=by
        rintro rfl
        obtain ⟨_,c1,k1,_⟩:=hrow.parts
        obtain ⟨_,c2,k2,_⟩:=hl1.parts
        rw [k1] at k2
        injection k2 with k2
        injection k2 with _ k2 _
        exact absurd k2 (by decide)
       have ngf:g≠gf:=fun e=>hf1.not_ rfl hrow (by decide) e.symm
       have hvd2:d < cj.r.length:=by omega
       clear hgG hvals
       go_region_held3 (fun w'=>w'.cell? ⟨gl,j * 6,none⟩=some (.int .i64 o)∧w'.cell? ⟨gl,j * 6 + 1,none⟩=some (.int .i64 (d:Int))∧w'.cell? ⟨gl,j * 6 + 2,none⟩=some (.int .i64 a)∧w'.cell? ⟨gl,j * 6 + 3,none⟩=some (.int .i64 b)∧w'.cell? ⟨gl,j * 6 + 4,none⟩=some (.int .i64 e)∧w'.cell? ⟨gl,j * 6 + 5,none⟩=some (.int .i64 n)∧w'.cell? ⟨gf,0,none⟩=some (.int .i64 0)) (first | exact ⟨d0,d1,d2,d3,d4,d5,f0⟩ | exact ⟨d0p,d1p,d2p,d3p,d4p,d5p,f0p⟩ | exact ⟨cell_far d0p ngl,cell_far d1p ngl,cell_far d2p ngl,cell_far d3p ngl,cell_far d4p ngl,cell_far d5p ngl,cell_far f0p ngf⟩) ((go_at_call 61; refine Calls.mono (HCC _ (Bld.heap hB1 rfl) (Regs.heap hr1 rfl)) ?_; rintro e w5 ⟨g5,k5,rfl,hge,k3,k1,k2⟩; have l5:=Row.onto hl1 k2 rfl hst1 hsg1; have d0p:=l5.cell G0; have d1p:=l5.cell G1; have d2p:=l5.cell G2; have d3p:=l5.cell G3; have d4p:=l5.cell G4; have d5p:=l5.cell G5; have f0p:=(Wd.onto hf1 k2 rfl hti).cell hf0; have r5:=Row.onto hrow k2 rfl hzt hzg; have hp5:=r5.cell hvd; have hz5:=World.ownsRow.frozenAt r5 d; have lr5:=r5.lt))
       all_goals
        have HW:=hid (LoopS.word HI.out (w3:=w5) (g2:=g5) (k2:=k5) (d:=d) hge k3 k1 ((Stay.refl TS (w.heap.size + 1) wr).onto k2 rfl rfl rfl rfl) hvd2)
        clear k1 k2 k3 l5 d0p d1p d2p d3p d4p d5p f0p r5 hp5 hz5 lr5 hrow hvd G0 G1 G2 G3 G4 G5 hl1 d0 d1 d2 d3 d4 d5 hf1 hf0 f0 hB1 hr1 HCC HI
        go_wp2
        go_roundw
        case rel=>exact ⟨j + 1,A,kO,by omega,by go_num,by rw [HN.out]; exact HW.out⟩
        case measure=>simp [intOf]; omega
     ·obtain rfl:j=U.length:=by omega
      have hcu:compC (U.take U.length)=compC U:=by rw [List.take_length]
      rw [hcu] at hI
      have HCC:=hid HC.out
      obtain ⟨cj,hcj⟩:∃ c,compC U=c:=⟨_,rfl⟩
      rw [hcj] at hI HCC
      obtain ⟨G,cg,hx,_,hg1⟩:=hI.x
      have cell_x:=hx.cell
      have froz_x:=hx.frozen
      have lt_x:=hx.lt
      have cell_r:=hI.r.cell
      have froz_r:=hI.r.frozen
      have lt_r:=hI.r.lt
      have hne:bc≠w.heap.size:=by omega
      have hne2:w.heap.size≠bc:=by omega
      have HI:=hid (And.intro hI (And.intro hx hg1))
      clear hI hok hcj hcu HC hx hg1
      go_wp2
      ((try simp only [Exit.inBlock,Exit.then]); apply bodyPost_ret0; focus ((try simp only [results,Tryz.results17]); (try go_simp); (try rfl)))
      rw [HCC.out]
      exact give_comp HI.out.2.1 HI.out.1.r (own_weak HI.out.2.2 (Nat.le_succ _)) (own_weak HI.out.1.out (Nat.le_succ _)) HI.out.1.b (by omega) (by exact tchBy)
end Go.Proofs.YtihbaieiempjeaaGreat
