/- Lemmas of the proof: RunRe, RunRf, RunRg, Trans, Trans2, Trans3. -/
import Derived.Test.YtihbaieiempjeaaGreatC0
import Derived.Test.YtihbaieiempjeaaGreatC18
import Derived.Test.YtihbaieiempjeaaGreatC1
import Derived.Deep.RegionHeld3
import Derived.Deep.DeepCutAuto
import Derived.BigQuiet
namespace Go.Proofs.YtihbaieiempjeaaGreat
open Go.RowKit
set_option linter.unusedVariables false in
set_option maxRecDepth 100000 in
set_option maxHeartbeats 6400000 in
theorem sStepSt11 (R0 O0:Option Addr) (c0 o0:Nat) (rs os:List Int) (Ai:Option Addr) (ci:Nat) (ls:List In1) (s:St) (w:World) (hr:w.ownsRow 0 3 1 (.slice R0 8 c0) 8 (ints rs)) (ho:w.ownsRow 0 3 1 (.slice O0 os.length o0) os.length (ints os)) (hci:Cells w w.heap.size Ai (insW ls)) (hi:InsW w w.heap.size ls) (hm:ls.length + totL ls≤1000000000) (hib:insB (insN ls)=true)
  (h8:rs.length=8) (h1:nbB rs=true) (h2:nbB os=true) (hn:os.length≤900000) (hs:stmtB s=true) (h12:s.o≠12) (h13:s.o≠13) (hk:Hid (s.o=11)) :
  Calls Tryz.prog 44 #[.agg #[.slice R0 8 c0,.slice O0 os.length o0],.agg #[.int .i64 s.o,.int .i64 s.d,.int .i64 s.a,.int .i64 s.b,.int .i64 s.c,.int .i64 s.n],.slice Ai ls.length ci] w fun e w'=>(nbB (runS (insN ls) ⟨rs,os⟩ s).r=true∧nbB (runS (insN ls) ⟨rs,os⟩ s).o=true∧(runS (insN ls) ⟨rs,os⟩ s).r.length=8∧(runS (insN ls) ⟨rs,os⟩ s).o.length≤os.length + 1) ∧
   ∃ v,e=.returned v∧StOf w.heap.size (runS (insN ls) ⟨rs,os⟩ s).o.length (runS (insN ls) ⟨rs,os⟩ s).r (runS (insN ls) ⟨rs,os⟩ s).o v w'∧Below w.heap.size w w':=by
 have hin:=stmt_in hs
 obtain ⟨o,d,a,b,c,n⟩:=s
 dsimp only at *
 have HSO:=hid (fun w=>sStmtOk o d a b c n w)
 rw [hs] at HSO
 have HOK:=hid (fun w hr ho=>sStateOk R0 O0 c0 o0 rs os w hr ho h8 h1 h2 (by omega))
 have HIO:=hid (fun w' (h:Below w.heap.size w w')=>sInsOk Ai ci ls w' ((hci.below h).more h.size) ((hi.below h (Nat.le_refl _)).more h.size) (by omega) (fun q hq=>by have:=totL_mem hq; omega))
 rw [hib] at HIO
 have HCP:=hid (fun (R O:Option Addr) cr co n (rs os:List Int) w (h1:w.ownsRow 0 3 1 (.slice R 8 cr) 8 (ints rs)) (h2:w.ownsRow 0 3 1 (.slice O n co) n (ints os)) hn=>sCopyS R O cr co n rs os w h1 h2 hn)
 have HR0:=hid hr
 have HO0:=hid ho
 have HIN:=hid (And.intro hci (And.intro hi hib))
 have HN1:=hid h1
 have HN2:=hid h2
 have H8:=hid h8
 have hg11:decide ((11:Int) < o)=false:=by simp; omega
 have HINP:=hid (fun (h2:o=2)=>(show a≤4∧n≤3 from (stmt_plain hs (by dsimp only; omega) h12 h13).inp h2))
 clear hci hi hm hib h1 h2 hs h8
 go_enter Tryz.func44,Tryz.ntmps44
 have b_0:=(Below.refl w.heap.size w)
 have s_0:=b_0.size
 have og_in:=own_in hr
 have og_0:=hr
 clear hr
 have oo_in:=own_in ho
 have oo_0:=ho
 clear ho
 go_upto_region 1 with fail
 refine wp_forget3 (w0:=w) (B:=w.heap.size) (b0:=w.heap.size) (t0:=69) (c0:=#[.slice R0 8 c0,.slice O0 os.length o0]) (b1:=w.heap.size + 1) (t1:=73) (c1:=#[.int .i64 o,.int .i64 d,.int .i64 a,.int .i64 b,.int .i64 c,.int .i64 n]) (b2:=w.heap.size + 2) (t2:=69) (c2:=#[.slice none 0 0,.slice none 0 0]) ?_ ?_ ?_ ?_ ?_
 (focus exact blkcBy2)
 (focus exact blkcBy2)
 (focus exact blkcBy2)
 (focus (exact belBy))
 intro w1 x_1 y_1 r_1 hX1
 have sX1:=hX1.size
 have x_lt:=x_1.lt
 have y_lt:=y_1.lt
 have r_lt:=r_1.lt
 have b_1:=b_0.trans (hX1.mono (by omega))
 have og_1:=own_below og_0 hX1
 have oo_1:=own_below oo_0 hX1
 clear og_0 oo_0 b_0 hX1
 have cell_x:=x_1.cell
 have froz_x:=x_1.frozen
 have lt_x:=x_1.lt
 have cell_y:=y_1.cell
 have froz_y:=y_1.frozen
 have lt_y:=y_1.lt
 have cell_r:=r_1.cell
 have froz_r:=r_1.frozen
 have lt_r:=r_1.lt
 have H1:=hid (And.intro x_1 (And.intro y_1 (And.intro r_1 b_1)))
 have z1:=b_1.size
 have lt_r1:=r_1.lt
 go_wp2_with fail
 refine calls_forget0 (W:=w1) ?_ ?_
 (focus (exact belBy))
 intro X2 hX2
 have sX2:=hX2.size
 refine (HCP.out R0 O0 c0 o0 os.length rs os _ (own_below og_1 hX2) (own_below oo_1 hX2) (by omega)).mono ?_
 rintro e w2 ⟨v,rfl,⟨R,cr,O,co,rfl,hp,hq,hne⟩,hb2⟩
 have s2:=hb2.size
 have hT2:=hX2.trans (hb2.mono sX2)
 have H2:=hid (And.intro (H1.out.1.past hT2) (And.intro (H1.out.2.1.past hT2) (And.intro (H1.out.2.2.1.past hT2) (And.intro (own_weak (base':=w.heap.size + 3) hp (by omega)) (And.intro (own_weak (base':=w.heap.size + 3) hq (by omega)) (And.intro hne (H1.out.2.2.2.trans (hT2.mono z1))))))))
 clear hp hq hne hb2 hX2 hT2 H1 x_1 y_1 r_1 b_1 og_1 oo_1 og_in oo_in cell_x froz_x lt_x cell_y froz_y lt_y cell_r froz_r lt_r
 go_upto_region 2 with fail
 apply wp_forget1 (w0:=w2) (B:=w2.heap.size) (b0:=w2.heap.size) (t0:=TSa) (c0:=#[.slice R 8 cr,.slice O os.length co])
 focus exact blkcBy2
 focus (exact belBy)
 intro w3 z_3 hb3
 have s3:=hb3.size
 have H3:=hid (show StM w #[.slice R0 8 c0,.slice O0 os.length o0] #[.int .i64 o,.int .i64 d,.int .i64 a,.int .i64 b,.int .i64 c,.int .i64 n] rs os R O cr co w2.heap.size os.length w3 from
  ⟨H2.out.1.past hb3,H2.out.2.1.past hb3,H2.out.2.2.1.past hb3,z_3,own_below H2.out.2.2.2.1 hb3,own_below H2.out.2.2.2.2.1 hb3,H2.out.2.2.2.2.2.1,H2.out.2.2.2.2.2.2.trans (hb3.mono (by omega)),by omega⟩)
 obtain ⟨bz,hbz⟩:∃ n,w2.heap.size=n:=⟨_,rfl⟩
 rw [hbz] at H3 ⊢
 clear z_3 hb3 H2 hbz
 have z3:=H3.out.b.size
 have cell_x:=H3.out.x.cell
 have lt_x:=H3.out.x.lt
 have cell_y:=H3.out.y.cell
 have lt_y:=H3.out.y.lt
 go_wp2_with fail
 refine calls_forget0 (W:=w3) ?_ ?_
 (focus (exact belBy))
 intro X4 hX4
 have sX4:=hX4.size
 have hb4:=H3.out.b.trans (hX4.mono z3)
 refine (HOK.out _ (((Cells.of_own HR0.out).below hb4).more hb4.size) (((Cells.of_own HO0.out).below hb4).more hb4.size)).mono ?_
 rintro e w4 ⟨rfl,hb5⟩
 have s4:=hb5.size
 have H4:=hid (H3.out.below (hX4.trans (hb5.mono sX4)))
 clear cell_x lt_x cell_y lt_y hX4 hb4 hb5 H3
 have z4:=H4.out.b.size
 have cell_y:=H4.out.y.cell
 have lt_y:=H4.out.y.lt
 go_wp2_with fail
 refine calls_forget0 (W:=w4) ?_ ?_
 (focus (exact belBy))
 intro X5 hX5
 have sX5:=hX5.size
 refine (HSO.out _).mono ?_
 rintro e w5 ⟨rfl,hb5⟩
 have s5:=hb5.size
 have H5:=hid (H4.out.below (hX5.trans (hb5.mono sX5)))
 clear cell_y lt_y hX5 hb5 H4
 have z5:=H5.out.b.size
 have cell_y:=H5.out.y.cell
 have lt_y:=H5.out.y.lt
 go_wp2_with fail
 refine (HIO.out _ H5.out.b).mono ?_
 rintro e w' ⟨rfl,rfl⟩
 obtain ⟨d,rfl⟩:=Int.eq_ofNat_of_zero_le hin.2.1.1
 obtain ⟨a,rfl⟩:=Int.eq_ofNat_of_zero_le hin.2.2.1.1
 obtain ⟨b,rfl⟩:=Int.eq_ofNat_of_zero_le hin.2.2.2.1.1
 obtain ⟨c,rfl⟩:=Int.eq_ofNat_of_zero_le hin.2.2.2.2.1.1
 have hd8:(d:Int) < 8:=by omega
 have ha8:(a:Int) < 8:=by omega
 have hb8:(b:Int) < 8:=by omega
 have hc8:(c:Int) < 8:=by omega
 have d00:(0:Int)≤(d:Int):=by omega
 have a00:(0:Int)≤(a:Int):=by omega
 have b00:(0:Int)≤(b:Int):=by omega
 have c00:(0:Int)≤(c:Int):=by omega
 have hn15:=hin.2.2.2.2.2
 have hpl:=HINP.out
 have hget:∀ i,i < 8→rs[i]? = some (rs.getD i 0):=fun i hi=>by rw [List.getD_eq_getElem?_getD,List.getElem?_eq_getElem (by have:=H8.out; omega)]; rfl
 have HGET:=hid hget
 clear hget
 obtain ⟨g,rfl,hg3,hg4,_⟩:=own_at H5.out.p (by omega)
 have ho11:=hk.out
 subst ho11
 obtain ⟨br,or_,rfl,hBr,hcr⟩:=Cells.at_ ((Cells.of_own HR0.out).below H5.out.b) (ints_get (HGET.out 0 (by omega)))
 have hra:=HGET.out a (by omega)
 have hna:=nb_at HN1.out hra
 have fa:=hcr _ _ (ints_get hra)
 obtain ⟨xa,ea⟩:∃ z,rs.getD a 0=z:=⟨_,rfl⟩
 rw [ea] at hna fa
 clear hra
 have HE:=hid (show runS (insN ls) ⟨rs,os⟩ ⟨11,(d:Int),(a:Int),(b:Int),(c:Int),n⟩=⟨rs,os ++ [xa]⟩ from by
  show (⟨rs,os ++ [rs.getD a 0]⟩:Rs)=_
  rw [ea])
 have HFA:=hid fa
 clear ea fa
 go_upto_region 15 with fail
 have hb1:os.length + 1≤1000000:=by omega
 have qx:=fun (X:Later w5) (o:Nat)=>(H5.out.x.past X.below).cell o
 have qy:=fun (X:Later w5) (o:Nat)=>(H5.out.y.past X.below).cell o
 have qz:=fun (X:Later w5) (o:Nat)=>(H5.out.z.past X.below).cell o
 have qa:=fun (X:Later w5)=>(X.below.cell (p:=⟨br,or_ + a,none⟩) (by dsimp only; omega)).trans HFA.out
 clear cell_y lt_y
 refine wp_grow_tails (W:=w5) (spec:=specAt [(8,.any (RowOf w5.heap.size 3 1 1 [.int .i64 xa]))]) 9 (by kernel_rfl) (by kernel_rfl) (Onward.mk' ((Below.refl _ _).drew)) (specAt_stab ?_) ?_
 ·intro p hp F hF
  simp only [List.mem_cons,List.not_mem_nil,or_false] at hp
  rcases hp with rfl
  all_goals first | (cases hF; done) | (injection hF with hF; subst hF; exact RowOf.stable)
 refine gList_quietK 8 ⟨rfl,rfl,rfl,rfl,rfl,rfl,rfl,rfl,rfl,rfl,rfl,rfl,rfl,rfl,rfl,rfl,trivial⟩ (by decide) ?_
 delta Onward
 dsimp only [List.take,List.drop]
 repeat (go_big_quiet_step (fail))
 refine wpQuiet_nil ?_
 refine gList_any (RowOf w5.heap.size 3 1 1 [.int .i64 xa]) rfl rfl (fun w' hC hd=>?_) (fun vr=>?_)
 ·obtain ⟨⟨w',hb⟩,rfl⟩:=hC
  exact grow_lit1i rfl rfl (fun w=>litInt _ w) hb.size
 unfold gList
 intro w' hW hfs
 have hlast:RowOf w5.heap.size 3 1 1 [.int .i64 xa] vr w':=hfs 8
 obtain ⟨⟨w32,hb⟩,rfl⟩:=hW
 obtain ⟨A7,c7,rfl,h7⟩:=hlast
 obtain ⟨g7,rfl,_,_,_⟩:=own_at h7 (by omega)
 have s32:=hb.size
 have H7:=hid (row_cells (show Row _ g7 _ 1 1 c7 _ from own_weak h7 (Nat.zero_le _)))
 have HX:=hid (H5.out.below hb)
 have hw32:=HX.out.b.size
 have hr32:=HX.out.r.lt
 clear qx qy qz qa hfs hb h7 HFA
 dsimp only [List.drop]
 simp only [Act.put,List.setIfInBounds_toArray,List.set_cons_succ,List.set_cons_zero]
 have hko:=HX.out.q
 have hne1:=hid (own_ne_obj HX.out.q HX.out.z (by decide))
 go_wp2_with (at_builtin; refine app_inti rfl _ _ rfl (base:=w.heap.size + 3) (L:=os) (v:=Value.slice O os.length co) rfl hko (by omega) [xa] rfl rfl H7.out hb1 ?_; intro A1 k1 w9 ho9 hg9 hl9; have kx9:=gr_blk hg9 HX.out.z hne1.out; have cell_9:=kx9.cell; have froz_9:=kx9.frozen; have lt_9:=kx9.lt; have HK:=hid (StM.out HX.out ho9 hg9 (fun q hq=>(hl9 q hq).imp id (fun e=>by omega))); clear ho9 hg9 hl9 kx9)
 obtain ⟨w6,hw6⟩:∃ z,w9.setCell ⟨bz,1,none⟩ (Value.slice A1 (os.length + 1) k1)=z:=⟨_,rfl⟩
 rw [hw6] at HK ⊢
 clear hw6 hko hne1
 have hz6:=HK.out.b.size
 have hr6:=HK.out.r.lt
 have cell_z:=HK.out.z.cell
 have lt_z:=HK.out.z.lt
 go_wp2_with fail
 refine calls_forget0 (W:=w6) ?_ ?_
 (focus (exact belBy))
 intro X7 hX7
 have sX7:=hX7.size
 refine (HCP.out _ _ _ _ _ (rs) (os ++ [xa]) _ (own_weak (own_below HK.out.p hX7) (Nat.zero_le _)) (own_weak (own_below HK.out.q hX7) (Nat.zero_le _)) (by omega)).mono ?_
 rintro e w8 ⟨v8,rfl,⟨R8,c8,O8,k8,rfl,hp8,hq8,hne8⟩,hb8⟩
 have s8:=hb8.size
 have hT8:=hX7.trans (hb8.mono sX7)
 have r8:=HK.out.r.past hT8
 have HF:=hid (And.intro (own_weak (base':=w.heap.size + 3) hp8 (by omega)) (And.intro (own_weak (base':=w.heap.size + 3) hq8 (by omega)) (And.intro hne8 (HK.out.b.trans (hT8.mono hz6)))))
 have cell_r8:=r8.cell
 have froz_r8:=r8.frozen
 have lt_r8:=r8.lt
 clear hp8 hq8 hne8 hb8 hX7 hT8 r8 cell_z lt_z
 go_wp2
 ((try simp only [Exit.inBlock,Exit.then]); apply bodyPost_ret0; focus ((try simp only [results,Tryz.results44]); (try go_simp); (try rfl)))
 have h:=HF.out
 have hz8:=h.2.2.2.size
 rw [HE.out]
 dsimp only
 refine ⟨⟨HN1.out,nb_app HN2.out hna,H8.out,by rw [List.length_append]; exact Nat.le_refl _⟩,_,rfl,⟨R8,c8,O8,k8,by first | rfl | (rw [List.length_append]; rfl),?_,?_,?_⟩,?_⟩
 ·exact own_weak (own_touch' (L:=[w.heap.size + 2]) (w:=w8) (by exact tchBy) h.1 (fun q hq=>by have:=(own_in h.1 q hq).1; simp; omega)) (by omega)
 ·first | exact own_weak (own_touch' (L:=[w.heap.size + 2]) (w:=w8) (by exact tchBy) h.2.1 (fun q hq=>by have:=(own_in h.2.1 q hq).1; simp; omega)) (by omega) | (rw [List.length_append]; exact own_weak (own_touch' (L:=[w.heap.size + 2]) (w:=w8) (by exact tchBy) h.2.1 (fun q hq=>by have:=(own_in h.2.1 q hq).1; simp; omega)) (by omega))
 ·first | exact h.2.2.1 | (rw [List.length_append]; exact h.2.2.1)
 ·exact Touch.below' (L:=[w.heap.size + 2]) (w:=w8) (by exact tchBy) h.2.2.2 (fun i hi=>by simp at hi; omega) hz8
open Go.RowKit
set_option linter.unusedVariables false in
set_option maxRecDepth 100000 in
set_option maxHeartbeats 6400000 in
theorem sStepSt39 (R0 O0:Option Addr) (c0 o0:Nat) (rs os:List Int) (Ai:Option Addr) (ci:Nat) (ls:List In1) (s:St) (w:World) (hr:w.ownsRow 0 3 1 (.slice R0 8 c0) 8 (ints rs)) (ho:w.ownsRow 0 3 1 (.slice O0 os.length o0) os.length (ints os)) (hci:Cells w w.heap.size Ai (insW ls)) (hi:InsW w w.heap.size ls) (hm:ls.length + totL ls≤1000000000) (hib:insB (insN ls)=true)
  (h8:rs.length=8) (h1:nbB rs=true) (h2:nbB os=true) (hn:os.length≤900000) (hs:stmtB s=true) (h12:s.o≠12) (h13:s.o≠13) (hk:Hid (s.o≠1∧s.o≠2∧s.o≠10∧s.o≠11)) :
  Calls Tryz.prog 44 #[.agg #[.slice R0 8 c0,.slice O0 os.length o0],.agg #[.int .i64 s.o,.int .i64 s.d,.int .i64 s.a,.int .i64 s.b,.int .i64 s.c,.int .i64 s.n],.slice Ai ls.length ci] w fun e w'=>(nbB (runS (insN ls) ⟨rs,os⟩ s).r=true∧nbB (runS (insN ls) ⟨rs,os⟩ s).o=true∧(runS (insN ls) ⟨rs,os⟩ s).r.length=8∧(runS (insN ls) ⟨rs,os⟩ s).o.length≤os.length + 1) ∧
   ∃ v,e=.returned v∧StOf w.heap.size (runS (insN ls) ⟨rs,os⟩ s).o.length (runS (insN ls) ⟨rs,os⟩ s).r (runS (insN ls) ⟨rs,os⟩ s).o v w'∧Below w.heap.size w w':=by
 have hin:=stmt_in hs
 obtain ⟨o,d,a,b,c,n⟩:=s
 dsimp only at *
 have HSO:=hid (fun w=>sStmtOk o d a b c n w)
 rw [hs] at HSO
 have HOK:=hid (fun w hr ho=>sStateOk R0 O0 c0 o0 rs os w hr ho h8 h1 h2 (by omega))
 have HIO:=hid (fun w' (h:Below w.heap.size w w')=>sInsOk Ai ci ls w' ((hci.below h).more h.size) ((hi.below h (Nat.le_refl _)).more h.size) (by omega) (fun q hq=>by have:=totL_mem hq; omega))
 rw [hib] at HIO
 have HCP:=hid (fun (R O:Option Addr) cr co n (rs os:List Int) w (h1:w.ownsRow 0 3 1 (.slice R 8 cr) 8 (ints rs)) (h2:w.ownsRow 0 3 1 (.slice O n co) n (ints os)) hn=>sCopyS R O cr co n rs os w h1 h2 hn)
 have HR0:=hid hr
 have HO0:=hid ho
 have HIN:=hid (And.intro hci (And.intro hi hib))
 have HN1:=hid h1
 have HN2:=hid h2
 have H8:=hid h8
 have hg11:decide ((11:Int) < o)=false:=by simp; omega
 have HINP:=hid (fun (h2:o=2)=>(show a≤4∧n≤3 from (stmt_plain hs (by dsimp only; omega) h12 h13).inp h2))
 clear hci hi hm hib h1 h2 hs h8
 go_enter Tryz.func44,Tryz.ntmps44
 have b_0:=(Below.refl w.heap.size w)
 have s_0:=b_0.size
 have og_in:=own_in hr
 have og_0:=hr
 clear hr
 have oo_in:=own_in ho
 have oo_0:=ho
 clear ho
 go_upto_region 1 with fail
 refine wp_forget3 (w0:=w) (B:=w.heap.size) (b0:=w.heap.size) (t0:=69) (c0:=#[.slice R0 8 c0,.slice O0 os.length o0]) (b1:=w.heap.size + 1) (t1:=73) (c1:=#[.int .i64 o,.int .i64 d,.int .i64 a,.int .i64 b,.int .i64 c,.int .i64 n]) (b2:=w.heap.size + 2) (t2:=69) (c2:=#[.slice none 0 0,.slice none 0 0]) ?_ ?_ ?_ ?_ ?_
 (focus exact blkcBy2)
 (focus exact blkcBy2)
 (focus exact blkcBy2)
 (focus (exact belBy))
 intro w1 x_1 y_1 r_1 hX1
 have sX1:=hX1.size
 have x_lt:=x_1.lt
 have y_lt:=y_1.lt
 have r_lt:=r_1.lt
 have b_1:=b_0.trans (hX1.mono (by omega))
 have og_1:=own_below og_0 hX1
 have oo_1:=own_below oo_0 hX1
 clear og_0 oo_0 b_0 hX1
 have cell_x:=x_1.cell
 have froz_x:=x_1.frozen
 have lt_x:=x_1.lt
 have cell_y:=y_1.cell
 have froz_y:=y_1.frozen
 have lt_y:=y_1.lt
 have cell_r:=r_1.cell
 have froz_r:=r_1.frozen
 have lt_r:=r_1.lt
 have H1:=hid (And.intro x_1 (And.intro y_1 (And.intro r_1 b_1)))
 have z1:=b_1.size
 have lt_r1:=r_1.lt
 go_wp2_with fail
 refine calls_forget0 (W:=w1) ?_ ?_
 (focus (exact belBy))
 intro X2 hX2
 have sX2:=hX2.size
 refine (HCP.out R0 O0 c0 o0 os.length rs os _ (own_below og_1 hX2) (own_below oo_1 hX2) (by omega)).mono ?_
 rintro e w2 ⟨v,rfl,⟨R,cr,O,co,rfl,hp,hq,hne⟩,hb2⟩
 have s2:=hb2.size
 have hT2:=hX2.trans (hb2.mono sX2)
 have H2:=hid (And.intro (H1.out.1.past hT2) (And.intro (H1.out.2.1.past hT2) (And.intro (H1.out.2.2.1.past hT2) (And.intro (own_weak (base':=w.heap.size + 3) hp (by omega)) (And.intro (own_weak (base':=w.heap.size + 3) hq (by omega)) (And.intro hne (H1.out.2.2.2.trans (hT2.mono z1))))))))
 clear hp hq hne hb2 hX2 hT2 H1 x_1 y_1 r_1 b_1 og_1 oo_1 og_in oo_in cell_x froz_x lt_x cell_y froz_y lt_y cell_r froz_r lt_r
 go_upto_region 2 with fail
 apply wp_forget1 (w0:=w2) (B:=w2.heap.size) (b0:=w2.heap.size) (t0:=TSa) (c0:=#[.slice R 8 cr,.slice O os.length co])
 focus exact blkcBy2
 focus (exact belBy)
 intro w3 z_3 hb3
 have s3:=hb3.size
 have H3:=hid (show StM w #[.slice R0 8 c0,.slice O0 os.length o0] #[.int .i64 o,.int .i64 d,.int .i64 a,.int .i64 b,.int .i64 c,.int .i64 n] rs os R O cr co w2.heap.size os.length w3 from
  ⟨H2.out.1.past hb3,H2.out.2.1.past hb3,H2.out.2.2.1.past hb3,z_3,own_below H2.out.2.2.2.1 hb3,own_below H2.out.2.2.2.2.1 hb3,H2.out.2.2.2.2.2.1,H2.out.2.2.2.2.2.2.trans (hb3.mono (by omega)),by omega⟩)
 obtain ⟨bz,hbz⟩:∃ n,w2.heap.size=n:=⟨_,rfl⟩
 rw [hbz] at H3 ⊢
 clear z_3 hb3 H2 hbz
 have z3:=H3.out.b.size
 have cell_x:=H3.out.x.cell
 have lt_x:=H3.out.x.lt
 have cell_y:=H3.out.y.cell
 have lt_y:=H3.out.y.lt
 go_wp2_with fail
 refine calls_forget0 (W:=w3) ?_ ?_
 (focus (exact belBy))
 intro X4 hX4
 have sX4:=hX4.size
 have hb4:=H3.out.b.trans (hX4.mono z3)
 refine (HOK.out _ (((Cells.of_own HR0.out).below hb4).more hb4.size) (((Cells.of_own HO0.out).below hb4).more hb4.size)).mono ?_
 rintro e w4 ⟨rfl,hb5⟩
 have s4:=hb5.size
 have H4:=hid (H3.out.below (hX4.trans (hb5.mono sX4)))
 clear cell_x lt_x cell_y lt_y hX4 hb4 hb5 H3
 have z4:=H4.out.b.size
 have cell_y:=H4.out.y.cell
 have lt_y:=H4.out.y.lt
 go_wp2_with fail
 refine calls_forget0 (W:=w4) ?_ ?_
 (focus (exact belBy))
 intro X5 hX5
 have sX5:=hX5.size
 refine (HSO.out _).mono ?_
 rintro e w5 ⟨rfl,hb5⟩
 have s5:=hb5.size
 have H5:=hid (H4.out.below (hX5.trans (hb5.mono sX5)))
 clear cell_y lt_y hX5 hb5 H4
 have z5:=H5.out.b.size
 have cell_y:=H5.out.y.cell
 have lt_y:=H5.out.y.lt
 go_wp2_with fail
 refine (HIO.out _ H5.out.b).mono ?_
 rintro e w' ⟨rfl,rfl⟩
 obtain ⟨d,rfl⟩:=Int.eq_ofNat_of_zero_le hin.2.1.1
 obtain ⟨a,rfl⟩:=Int.eq_ofNat_of_zero_le hin.2.2.1.1
 obtain ⟨b,rfl⟩:=Int.eq_ofNat_of_zero_le hin.2.2.2.1.1
 obtain ⟨c,rfl⟩:=Int.eq_ofNat_of_zero_le hin.2.2.2.2.1.1
 have hd8:(d:Int) < 8:=by omega
 have ha8:(a:Int) < 8:=by omega
 have hb8:(b:Int) < 8:=by omega
 have hc8:(c:Int) < 8:=by omega
 have d00:(0:Int)≤(d:Int):=by omega
 have a00:(0:Int)≤(a:Int):=by omega
 have b00:(0:Int)≤(b:Int):=by omega
 have c00:(0:Int)≤(c:Int):=by omega
 have hn15:=hin.2.2.2.2.2
 have hpl:=HINP.out
 have hget:∀ i,i < 8→rs[i]? = some (rs.getD i 0):=fun i hi=>by rw [List.getD_eq_getElem?_getD,List.getElem?_eq_getElem (by have:=H8.out; omega)]; rfl
 have HGET:=hid hget
 clear hget
 obtain ⟨g,rfl,hg3,hg4,_⟩:=own_at H5.out.p (by omega)
 obtain ⟨ho1,ho2,ho10,ho11⟩:=hk.out
 have ho39:3≤o∧o≤9:=by omega
 have g1:(o == 1)=false:=by simpa using ho1
 have g2:(o == 2)=false:=by simpa using ho2
 have g10:(o == 10)=false:=by simpa using ho10
 have g11:(o == 11)=false:=by simpa using ho11
 obtain ⟨br,or_,rfl,hBr,hcr⟩:=Cells.at_ ((Cells.of_own HR0.out).below H5.out.b) (ints_get (HGET.out 0 (by omega)))
 have hra:=HGET.out a (by omega)
 have hna:=nb_at HN1.out hra
 have fa:=hcr _ _ (ints_get hra)
 obtain ⟨xa,ea⟩:∃ z,rs.getD a 0=z:=⟨_,rfl⟩
 rw [ea] at hna fa
 clear hra
 have hrb:=HGET.out b (by omega)
 have hnb:=nb_at HN1.out hrb
 have fb:=hcr _ _ (ints_get hrb)
 obtain ⟨xb,eb⟩:∃ z,rs.getD b 0=z:=⟨_,rfl⟩
 rw [eb] at hnb fb
 clear hrb
 have HE:=hid (show runS (insN ls) ⟨rs,os⟩ ⟨o,(d:Int),(a:Int),(b:Int),(c:Int),n⟩=⟨rs.set d (opI o xa xb),os⟩ from by
  unfold runS
  rw [if_neg ho11]
  have e:valI (insN ls) rs ⟨o,(d:Int),(a:Int),(b:Int),(c:Int),n⟩=opI o xa xb:=by
   unfold valI
   rw [if_neg ho1,if_neg ho2,if_neg ho10]
   show opI o (rs.getD a 0) (rs.getD b 0)=_
   rw [ea,eb]
  rw [e]
  rfl)
 have HOP:=hid (fun w=>sOperate o xa xb w ho39 hna hnb)
 have hnv:=opI_nib (o:=o) hna hnb
 obtain ⟨v,hv⟩:∃ v,opI o xa xb=v:=⟨_,rfl⟩
 rw [hv] at HE HOP hnv
 have HFA:=hid (And.intro fa fb)
 clear ea fa eb fb hv
 go_upto_region 5 with fail
 have qx:=fun (X:Later w5) (o:Nat)=>(H5.out.x.past X.below).cell o
 have qy:=fun (X:Later w5) (o:Nat)=>(H5.out.y.past X.below).cell o
 have qz:=fun (X:Later w5) (o:Nat)=>(H5.out.z.past X.below).cell o
 have qa:=fun (X:Later w5)=>(X.below.cell (p:=⟨br,or_ + a,none⟩) (by dsimp only; omega)).trans HFA.out.1
 have qb:=fun (X:Later w5)=>(X.below.cell (p:=⟨br,or_ + b,none⟩) (by dsimp only; omega)).trans HFA.out.2
 clear cell_y lt_y g1 g2 g10 g11
 refine wp_grow_tails (W:=w5) (spec:=specAt [(18,.con (.int .i64 v))]) 20 (by kernel_rfl) (by kernel_rfl) (Onward.mk' ((Below.refl _ _).drew)) (specAt_stab ?_) ?_
 ·intro p hp F hF
  simp only [List.mem_cons,List.not_mem_nil,or_false] at hp
  rcases hp with rfl
  cases hF
 refine gList_quietK 18 ⟨rfl,rfl,rfl,rfl,rfl,rfl,rfl,rfl,rfl,rfl,rfl,rfl,rfl,rfl,rfl,rfl,rfl,rfl,rfl,rfl,rfl,rfl,rfl,rfl,rfl,rfl,rfl,rfl,rfl,rfl,rfl,rfl,rfl,rfl,rfl,rfl,trivial⟩ (by decide) ?_
 delta Onward
 dsimp only [List.take,List.drop]
 repeat (go_big_quiet_step (fail))
 refine wpQuiet_nil ?_
 refine gList_con (.int .i64 v) rfl rfl (fun w' hC _=>?_) ?_
 ·obtain ⟨⟨w',hb⟩,rfl⟩:=hC
  exact grow_con (by simp [go_sem]) ((HOP.out _).mono fun e w'' ⟨h1,h2⟩=>⟨h1,by rw [←h2]; exact Below.refl _ _⟩)
 refine gList_quietK 1 ⟨rfl,rfl,trivial⟩ (by decide) ?_
 simp only [Act.put,List.setIfInBounds_toArray,List.set_cons_succ,List.set_cons_zero]
 dsimp only [List.take,List.drop]
 repeat (go_big_quiet_step (fail))
 refine wpQuiet_nil ?_
 unfold gList
 intro w' hW hfs
 obtain ⟨⟨w32,hb⟩,rfl⟩:=hW
 have HX:=hid (H5.out.below hb)
 have hw32:=HX.out.b.size
 have hr32:=HX.out.r.lt
 obtain ⟨u0,hu0⟩:∃ u,w'.cell? ⟨g,d,none⟩=some u:=by rw [HX.out.p.cellAt d (by omega)]; have:=HX.out.p.1; exact ⟨_,List.getElem?_eq_getElem (by omega)⟩
 have hfr:=HX.out.p.frozenAt d
 clear qx qy qz qa qb hfs HFA
 try dsimp only [List.drop]
 try simp only [Act.put,List.setIfInBounds_toArray,List.set_cons_succ,List.set_cons_zero]
 go_upto_region 16 with fail
 obtain ⟨w6,hw6⟩:∃ z,w'.setCell ⟨g,d,none⟩ (.int .i64 v)=z:=⟨_,rfl⟩
 have HK:=hid (HX.out.reg (i:=d) (v:=v))
 rw [hw6] at HK ⊢
 clear hw6 hu0 hfr
 have hz6:=HK.out.b.size
 have hr6:=HK.out.r.lt
 have cell_z:=HK.out.z.cell
 have lt_z:=HK.out.z.lt
 go_wp2_with fail
 refine calls_forget0 (W:=w6) ?_ ?_
 (focus (exact belBy))
 intro X7 hX7
 have sX7:=hX7.size
 refine (HCP.out _ _ _ _ _ (rs.set d v) (os) _ (own_weak (own_below HK.out.p hX7) (Nat.zero_le _)) (own_weak (own_below HK.out.q hX7) (Nat.zero_le _)) (by omega)).mono ?_
 rintro e w8 ⟨v8,rfl,⟨R8,c8,O8,k8,rfl,hp8,hq8,hne8⟩,hb8⟩
 have s8:=hb8.size
 have hT8:=hX7.trans (hb8.mono sX7)
 have r8:=HK.out.r.past hT8
 have HF:=hid (And.intro (own_weak (base':=w.heap.size + 3) hp8 (by omega)) (And.intro (own_weak (base':=w.heap.size + 3) hq8 (by omega)) (And.intro hne8 (HK.out.b.trans (hT8.mono hz6)))))
 have cell_r8:=r8.cell
 have froz_r8:=r8.frozen
 have lt_r8:=r8.lt
 clear hp8 hq8 hne8 hb8 hX7 hT8 r8 cell_z lt_z
 go_wp2
 ((try simp only [Exit.inBlock,Exit.then]); apply bodyPost_ret0; focus ((try simp only [results,Tryz.results44]); (try go_simp); (try rfl)))
 have h:=HF.out
 have hz8:=h.2.2.2.size
 rw [HE.out]
 dsimp only
 refine ⟨⟨nb_set HN1.out hnv,HN2.out,by rw [List.length_set]; exact H8.out,Nat.le_succ _⟩,_,rfl,⟨R8,c8,O8,k8,by first | rfl | (rw [List.length_append]; rfl),?_,?_,?_⟩,?_⟩
 ·exact own_weak (own_touch' (L:=[w.heap.size + 2]) (w:=w8) (by exact tchBy) h.1 (fun q hq=>by have:=(own_in h.1 q hq).1; simp; omega)) (by omega)
 ·first | exact own_weak (own_touch' (L:=[w.heap.size + 2]) (w:=w8) (by exact tchBy) h.2.1 (fun q hq=>by have:=(own_in h.2.1 q hq).1; simp; omega)) (by omega) | (rw [List.length_append]; exact own_weak (own_touch' (L:=[w.heap.size + 2]) (w:=w8) (by exact tchBy) h.2.1 (fun q hq=>by have:=(own_in h.2.1 q hq).1; simp; omega)) (by omega))
 ·first | exact h.2.2.1 | (rw [List.length_append]; exact h.2.2.1)
 ·exact Touch.below' (L:=[w.heap.size + 2]) (w:=w8) (by exact tchBy) h.2.2.2 (fun i hi=>by simp at hi; omega) hz8
open Go.RowKit
theorem sStepSt (R0 O0:Option Addr) (c0 o0:Nat) (rs os:List Int) (Ai:Option Addr) (ci:Nat) (ls:List In1) (s:St) (w:World) (hr:w.ownsRow 0 3 1 (.slice R0 8 c0) 8 (ints rs)) (ho:w.ownsRow 0 3 1 (.slice O0 os.length o0) os.length (ints os)) (hci:Cells w w.heap.size Ai (insW ls)) (hi:InsW w w.heap.size ls) (hm:ls.length + totL ls≤1000000000) (hib:insB (insN ls)=true)
  (h8:rs.length=8) (h1:nbB rs=true) (h2:nbB os=true) (hn:os.length≤900000) (hs:stmtB s=true) (h12:s.o≠12) (h13:s.o≠13) :
  Calls Tryz.prog 44 #[.agg #[.slice R0 8 c0,.slice O0 os.length o0],.agg #[.int .i64 s.o,.int .i64 s.d,.int .i64 s.a,.int .i64 s.b,.int .i64 s.c,.int .i64 s.n],.slice Ai ls.length ci] w fun e w'=>(nbB (runS (insN ls) ⟨rs,os⟩ s).r=true∧nbB (runS (insN ls) ⟨rs,os⟩ s).o=true∧(runS (insN ls) ⟨rs,os⟩ s).r.length=8∧(runS (insN ls) ⟨rs,os⟩ s).o.length≤os.length + 1) ∧
   ∃ v,e=.returned v∧StOf w.heap.size (runS (insN ls) ⟨rs,os⟩ s).o.length (runS (insN ls) ⟨rs,os⟩ s).r (runS (insN ls) ⟨rs,os⟩ s).o v w'∧Below w.heap.size w w':=by
 by_cases ho1:s.o=1
 ·exact sStepSt1 R0 O0 c0 o0 rs os Ai ci ls s w hr ho hci hi hm hib h8 h1 h2 hn hs h12 h13 (hid ho1)
 by_cases ho2:s.o=2
 ·exact sStepSt2 R0 O0 c0 o0 rs os Ai ci ls s w hr ho hci hi hm hib h8 h1 h2 hn hs h12 h13 (hid ho2)
 by_cases ho10:s.o=10
 ·exact sStepSt10 R0 O0 c0 o0 rs os Ai ci ls s w hr ho hci hi hm hib h8 h1 h2 hn hs h12 h13 (hid ho10)
 by_cases ho11:s.o=11
 ·exact sStepSt11 R0 O0 c0 o0 rs os Ai ci ls s w hr ho hci hi hm hib h8 h1 h2 hn hs h12 h13 (hid ho11)
 exact sStepSt39 R0 O0 c0 o0 rs os Ai ci ls s w hr ho hci hi hm hib h8 h1 h2 hn hs h12 h13 (hid ⟨ho1,ho2,ho10,ho11⟩)
open Go.RowKit
set_option maxHeartbeats 1600000 in
theorem iInputLabels (s a:Int) (A:Option Addr) (c:Nat) (bs:List Int) (w:World) (h1:tapeOkB s a=true) (h2:a≤900000) (hb:bitsB bs=true) (hl:bs.length≤80) (hc:Cells w w.heap.size A (ints bs)) :
  Calls Tryz.prog 94 #[.agg #[.int .i64 s,.int .i64 a],.slice A bs.length c] w (GivesInts w (labsTo s a bs bs.length)):=by
 have h3:decide (900000 < a)=false:=by simp; omega
 have h4:decide (80 < (bs.length:Int))=false:=by simp; omega
 have HD:=hid (fun w=>iDeltaOf s a w h1 h2)
 have HZ:=hid (fun k w h=>iInputZero s a k w h1 h)
 have HBI:=hid (fun (k:Nat) (x:Int) (h:bs[k]? = some x)=>bitsB_get hb h)
 have HBS:=hid (fun w hc=>iBits A c bs w hc (by omega))
 rw [hb] at HBS
 have HC:=hid hc
 clear h2 hb hc
 have hq0:=HC.out
 go_enter Tryz.func94,Tryz.ntmps94
 have b_0:=(Below.refl w.heap.size w)
 have s_0:=b_0.size
 have q_0:=hq0
 clear hq0
 go_wp2_with fail
 refine calls_forget1 (W:=w) (b0:=w.heap.size) (t0:=27) (c0:=#[.int .i64 s,.int .i64 a]) ?_ ?_ ?_
 (focus exact blkcBy)
 (focus (exact belBy))
 intro X1 t_n hX1
 have sX1:=hX1.size
 have t_lt:=t_n.lt
 refine (iTapeOk _ _ _).mono ?_
 rintro e w1 ⟨rfl,hb1⟩
 have s1:=hb1.size
 have hT1:=hX1.trans (hb1.mono sX1)
 have b_1:=b_0.trans (hT1.mono (by omega))
 have q_1:=cells_below q_0 hT1 (by omega)
 have t_1:=Blk.past hb1 t_n
 clear q_0 b_0 t_n hX1 hT1 hb1
 have cell_t:=t_1.cell
 have froz_t:=t_1.frozen
 have lt_t:=t_1.lt
 go_wp2_with fail
 refine calls_forget0 (W:=w1) ?_ ?_
 (focus (exact belBy))
 intro X2 hX2
 have sX2:=hX2.size
 refine (HBS.out _ ((cells_below q_1 hX2 (by omega)).more (by omega))).mono ?_
 rintro e w' ⟨rfl,rfl⟩
 have b_2:=b_1.trans (hX2.mono (by omega))
 have q_2:=cells_below q_1 hX2 (by omega)
 have t_2:=Blk.past hX2 t_1
 clear q_1 t_1 b_1 cell_t froz_t lt_t hX2
 have cell_t:=t_2.cell
 have froz_t:=t_2.frozen
 have lt_t:=t_2.lt
 go_wp2_with fail
 refine calls_forget0 (W:=X2) ?_ ?_
 (focus (exact belBy))
 intro X3 hX3
 have sX3:=hX3.size
 refine (HD.out _).mono ?_
 rintro e w3 ⟨rfl,hb3⟩
 have s3:=hb3.size
 have hT3:=hX3.trans (hb3.mono sX3)
 have b_3:=b_2.trans (hT3.mono (by omega))
 have q_3:=cells_below q_2 hT3 (by omega)
 have t_3:=Blk.past hT3 t_2
 clear q_2 t_2 b_2 cell_t froz_t lt_t hX3 hT3 hb3
 have cell_t:=t_3.cell
 have froz_t:=t_3.frozen
 have lt_t:=t_3.lt
 have HT:=hid t_3
 have HB:=hid b_3
 clear t_3 b_3 q_3
 go_wp2
 go_loopw [7,8,9,36] (fun o _ _ i wr=>∃ (j:Nat) (A':Option Addr) (c':Nat),j≤bs.length∧i=.int .i64 j∧o=.slice A' j c'∧wr.ownsRow (w.heap.size + 1) 3 1 (.slice A' j c') j (ints (labsTo s a bs j))∧Blk wr w.heap.size 27 #[.int .i64 s,.int .i64 a]∧Below w.heap.size w wr) (fun _ _ _ i _=>bs.length - (intOf i).toNat)
 case atStart=>exact ⟨0,some ⟨w3.heap.size + 1,0,none⟩,0,Nat.zero_le _,rfl,rfl,own_lit (size:=1) #[] 0 (by simp) (by simp; omega) (Nat.zero_le _) rfl,by have h:=HT.out; exact blkcBy,by have h:=HB.out; exact belBy⟩
 case round =>
  obtain ⟨j,A',c',hj,rfl,rfl,hown,ht,hb⟩:=hrel
  by_cases hlt:j < bs.length
  ·obtain ⟨x,hx⟩:∃ x,bs[j]? = some x:=⟨_,List.getElem?_eq_getElem hlt⟩
   obtain ⟨b,off,rfl,hB,hcl⟩:=HC.out (by rw [ints_length]; omega)
   have hcell:wr.cell? ⟨b,off + j,none⟩=some (.int .i64 x):=(hb.cell (p:=⟨b,off + j,none⟩) hB).trans (hcl j _ (ints_get hx))
   have HX:=hid (labsTo_succ (s:=s) (a:=a) hx)
   have hbit:=HBI.out j x hx
   have HBIT:=hid hbit
   clear hcl hx hbit
   have b_10:=hb
   have s_10:=b_10.size
   have o_in:=own_in hown
   have o_10:=hown
   clear hown
   have t_10:=ht
   clear ht
   have t_lt:=t_10.lt
   have cell_t:=t_10.cell
   have froz_t:=t_10.frozen
   have lt_t:=t_10.lt
   go_wp2_with fail
   refine calls_forget0 (W:=wr) ?_ ?_
   (focus (exact belBy))
   intro X11 hX11
   have sX11:=hX11.size
   refine (HZ.out _ _ (inB_iff.2 (by omega))).mono ?_
   rintro e w11 ⟨rfl,hb11⟩
   have s11:=hb11.size
   have hT11:=hX11.trans (hb11.mono sX11)
   have b_11:=b_10.trans (hT11.mono (by omega))
   have o_11:=own_below o_10 hT11
   have t_11:=Blk.past hT11 t_10
   clear o_10 t_10 b_10 cell_t froz_t lt_t hX11 hT11 hb11
   have cell_t:=t_11.cell
   have froz_t:=t_11.frozen
   have lt_t:=t_11.lt
   go_wp2_with fail
   refine calls_forget0 (W:=w11) ?_ ?_
   (focus (exact belBy))
   intro X12 hX12
   have sX12:=hX12.size
   refine (iLabelFor _ _ _ _ (zero_label _ _) (delta_label _ _) HBIT.out).mono ?_
   rintro e w12 ⟨rfl,hb12⟩
   have s12:=hb12.size
   have hT12:=hX12.trans (hb12.mono sX12)
   have b_12:=b_11.trans (hT12.mono (by omega))
   have o_12:=own_below o_11 hT12
   have t_12:=Blk.past hT12 t_11
   clear o_11 t_11 b_11 cell_t froz_t lt_t hX12 hT12 hb12
   have cell_t:=t_12.cell
   have froz_t:=t_12.frozen
   have lt_t:=t_12.lt
   go_wp2_with (at_builtin; refine wpList_appi rfl _ _ 30 rfl (w.heap.size + 1) 3 (.int .i64 0) 1 8 Tryz.underlying30 infoInt rfl (by decide) _ j _ rfl (o_12.alloc _) ⟨w12.heap.size,0,none⟩ 1 1 _ rfl rfl (one_new _ _ _) (one_one _) (by omega) (by decide) (by simp; omega) ?_)
   intro A_o c_o w13 o_13 hg13 li13
   have hg13:=grown_alloc hg13
   try simp only [World.size_alloc] at li13
   have s13:=hg13.size
   have b_13:=gr_below hg13 b_12 (by omega) (fun q hq=>by have h1:=o_in q hq; omega)
   have t_13:=gr_blk hg13 t_12 (fun q hq=>by have h1:=o_in q hq; omega)
   have o_ix:=own_in o_13
   clear o_12 t_12 b_12 cell_t froz_t lt_t hg13 li13 o_in
   have o_in:=o_ix
   clear o_ix
   have cell_t:=t_13.cell
   have froz_t:=t_13.frozen
   have lt_t:=t_13.lt
   rw [←ints_snoc,←HX.out] at o_13
   have HO:=hid o_13
   have HT2:=hid t_13
   have HB2:=hid b_13
   clear o_13 t_13 b_13 cell_t froz_t
   go_wp2
   go_roundw
   case rel=>exact ⟨j + 1,A_o,c_o,by omega,by go_num,rfl,HO.out,HT2.out,HB2.out⟩
   case measure=>simp [intOf]; omega
  ·obtain rfl:j=bs.length:=by omega
   have HO:=hid hown
   have HB2:=hid hb
   clear hown ht hb
   go_wp2
   go_ret
   have el:(labsTo s a bs bs.length).length=bs.length:=labsTo_length _ _ _ _
   unfold GivesInts
   rw [el]
   exact ⟨A',c',rfl,own_weak HO.out (by omega),HB2.out⟩
open Go.RowKit
section
variable {P:Program} {f:FuncId} {args:Array Value} {X W:World} {Q:Ending→World→Prop} {b0 b1 b2 b3:Nat} {t0 t1 t2 t3:TypeId} {c0 c1 c2 c3:Array Value}
theorem calls_forget4 (h0:Blk X b0 t0 c0) (h1:Blk X b1 t1 c1) (h2:Blk X b2 t2 c2) (h3:Blk X b3 t3 c3) (hX:Below W.heap.size W X)
  (h:∀ X',Blk X' b0 t0 c0→Blk X' b1 t1 c1→Blk X' b2 t2 c2→Blk X' b3 t3 c3→Below W.heap.size W X'→Calls P f args X' Q):Calls P f args X Q:=h X h0 h1 h2 h3 hX
end
def dealA (s a:Int):Int:=belowI s a 65536
def dealB (s a:Int):Int:=belowI s (belowAt s a 65536) 65536
def dealC (s a:Int):Int:=belowI s (belowAt s (belowAt s a 65536) 65536) 2
def dealR (s a:Int):Int:=pick (dealC s a == 1) (dealB s a) (dealA s a)
def dealAt (s a:Int):Int:=belowAt s (belowAt s (belowAt s a 65536) 65536) 2
theorem deal_at {s a:Int} (h1:tapeOkB s a=true) (h2:a≤900000):dealAt s a=a + 3:=by
 have hs:isWordB s=true:=by unfold tapeOkB at h1; simp only [Bool.and_eq_true] at h1; exact h1.1
 have ha:=tapeOkB_range h1
 have ok:∀ x n,0≤x→x≤900010→1≤n→n≤65536→belowAt s x n=x + 1:=fun x n x0 x1 n0 n1=>by
  have hg:tapeGoB s x=true:=by
   unfold tapeGoB tapeOkB
   rw [hs,show inB x 0 1000000=true from inB_iff.2 (by omega),show (x == 1000000)=false by simp; omega]
   rfl
  exact (below_yes (inB_iff.2 ⟨n0,n1⟩) hg).2
 unfold dealAt
 rw [ok a 65536 (by omega) (by omega) (by omega) (by omega),ok (a + 1) 65536 (by omega) (by omega) (by omega) (by omega),ok (a + 1 + 1) 2 (by omega) (by omega) (by omega) (by omega)]
 omega
theorem deal_c (s a:Int):inB (dealC s a) 0 1=true:=by
 unfold dealC belowI
 cases h:belowB s (belowAt s (belowAt s a 65536) 65536) 2
 ·rfl
 ·rw [pick_yes]
  exact inB_iff.2 (by omega)
theorem dealR_label (s a:Int):labelB (dealR s a)=true:=by
 unfold dealR
 cases dealC s a == 1
 ·exact below_label _ _ _
 ·exact below_label _ _ _
set_option maxHeartbeats 1600000 in
theorem iOtDeal (s a:Int) (w:World) (h1:tapeOkB s a=true) (h2:a≤900000) :
  Calls Tryz.prog 97 #[.agg #[.int .i64 s,.int .i64 a]] w fun e w'=>e=.returned (.tuple #[.agg #[.int .i64 (dealA s a),.int .i64 (dealB s a)],.agg #[.int .i64 (dealC s a),.int .i64 (dealR s a)],.agg #[.int .i64 s,.int .i64 (dealAt s a)]])∧Below w.heap.size w w':=by
 have h3:decide (900000 < a)=false:=by simp; omega
 clear h2
 have TA:=hid (fun w=>iTapeBelow s a 65536 w)
 have TB:=hid (fun w=>iTapeBelow s (belowAt s a 65536) 65536 w)
 have TC:=hid (fun w=>iTapeBelow s (belowAt s (belowAt s a 65536) 65536) 2 w)
 obtain ⟨a1,e1⟩:∃ x,belowAt s a 65536=x:=⟨_,rfl⟩
 unfold dealR dealAt dealA dealB dealC
 rw [e1] at TA TB TC ⊢
 obtain ⟨a2,e2⟩:∃ x,belowAt s a1 65536=x:=⟨_,rfl⟩
 rw [e2] at TB TC ⊢
 obtain ⟨a3,e3⟩:∃ x,belowAt s a2 2=x:=⟨_,rfl⟩
 obtain ⟨r0,f0⟩:∃ x,belowI s a 65536=x:=⟨_,rfl⟩
 obtain ⟨r1,f1⟩:∃ x,belowI s a1 65536=x:=⟨_,rfl⟩
 obtain ⟨cc,f2⟩:∃ x,belowI s a2 2=x:=⟨_,rfl⟩
 rw [f0] at TA ⊢
 rw [f1] at TB ⊢
 rw [f2,e3] at TC ⊢
 clear e1 e2 e3 f0 f1 f2
 cases hcc:cc == 1
 ·rw [pick_no]
  go_enter Tryz.func97,Tryz.ntmps97
  have b_0:=(Below.refl w.heap.size w)
  have s_0:=b_0.size
  go_wp2_with fail
  refine calls_forget4 (W:=w) (b0:=w.heap.size) (t0:=27) (c0:=#[.int .i64 s,.int .i64 a]) (b1:=w.heap.size + 1) (t1:=124) (c1:=#[.int .i64 0,.int .i64 0]) (b2:=w.heap.size + 2) (t2:=126) (c2:=#[.int .i64 0,.int .i64 0]) (b3:=w.heap.size + 3) (t3:=27) (c3:=#[.int .i64 0,.int .i64 0]) ?_ ?_ ?_ ?_ ?_ ?_
  (focus exact blkcBy)
  (focus exact blkcBy)
  (focus exact blkcBy)
  (focus exact blkcBy)
  (focus (exact belBy))
  intro X1 t_n p_n q_n u_n hX1
  have sX1:=hX1.size
  have t_lt:=t_n.lt
  have p_lt:=p_n.lt
  have q_lt:=q_n.lt
  have u_lt:=u_n.lt
  refine (iTapeOk _ _ _).mono ?_
  rintro e w1 ⟨rfl,hb1⟩
  have s1:=hb1.size
  have hT1:=hX1.trans (hb1.mono sX1)
  have b_1:=b_0.trans (hT1.mono (by omega))
  have t_1:=Blk.past hb1 t_n
  have p_1:=Blk.past hb1 p_n
  have q_1:=Blk.past hb1 q_n
  have u_1:=Blk.past hb1 u_n
  clear b_0 t_n p_n q_n u_n hX1 hT1 hb1
  have cell_t:=t_1.cell
  have froz_t:=t_1.frozen
  have lt_t:=t_1.lt
  have cell_p:=p_1.cell
  have froz_p:=p_1.frozen
  have lt_p:=p_1.lt
  have cell_q:=q_1.cell
  have froz_q:=q_1.frozen
  have lt_q:=q_1.lt
  have cell_u:=u_1.cell
  have froz_u:=u_1.frozen
  have lt_u:=u_1.lt
  go_wp2_with fail
  refine calls_forget2 (W:=w1) (b0:=w1.heap.size) (t0:=124) (c0:=#[.int .i64 0,.int .i64 0]) (b1:=w1.heap.size + 1) (t1:=126) (c1:=#[.int .i64 0,.int .i64 0]) ?_ ?_ ?_ ?_
  (focus exact blkcBy)
  (focus exact blkcBy)
  (focus (exact belBy))
  intro X2 x_n y_n hX2
  have sX2:=hX2.size
  have x_lt:=x_n.lt
  have y_lt:=y_n.lt
  refine (TA.out _).mono ?_
  rintro e w2 ⟨rfl,hb2⟩
  have s2:=hb2.size
  have hT2:=hX2.trans (hb2.mono sX2)
  have b_2:=b_1.trans (hT2.mono (by omega))
  have t_2:=Blk.past hT2 t_1
  have p_2:=Blk.past hT2 p_1
  have q_2:=Blk.past hT2 q_1
  have u_2:=Blk.past hT2 u_1
  have x_2:=Blk.past hb2 x_n
  have y_2:=Blk.past hb2 y_n
  clear t_1 p_1 q_1 u_1 b_1 cell_t froz_t lt_t cell_p froz_p lt_p cell_q froz_q lt_q cell_u froz_u lt_u x_n y_n hX2 hT2 hb2
  have cell_t:=t_2.cell
  have froz_t:=t_2.frozen
  have lt_t:=t_2.lt
  have cell_p:=p_2.cell
  have froz_p:=p_2.frozen
  have lt_p:=p_2.lt
  have cell_q:=q_2.cell
  have froz_q:=q_2.frozen
  have lt_q:=q_2.lt
  have cell_u:=u_2.cell
  have froz_u:=u_2.frozen
  have lt_u:=u_2.lt
  have cell_x:=x_2.cell
  have froz_x:=x_2.frozen
  have lt_x:=x_2.lt
  have cell_y:=y_2.cell
  have froz_y:=y_2.frozen
  have lt_y:=y_2.lt
  go_wp2_with fail
  refine calls_touch2 (w0:=w2) (L:=[w1.heap.size,w.heap.size]) (b0:=w1.heap.size) (t0:=124) (c0:=#[.int .i64 r0,.int .i64 0]) (b1:=w.heap.size) (t1:=27) (c1:=#[.int .i64 s,.int .i64 a1]) ?_ ?_ ?_ ?_
  (focus exact blkcBy)
  (focus exact blkcBy)
  (focus (exact tchBy))
  intro w3 x_3 t_3 hX3
  have sX3:=hX3.size
  have b_3:=hX3.below b_2 (by first | (simp; done) | (simp; omega))
  have p_3:=Blk.touch hX3 p_2 (by first | (simp; done) | (simp; omega))
  have q_3:=Blk.touch hX3 q_2 (by first | (simp; done) | (simp; omega))
  have u_3:=Blk.touch hX3 u_2 (by first | (simp; done) | (simp; omega))
  have y_3:=Blk.touch hX3 y_2 (by first | (simp; done) | (simp; omega))
  clear t_2 p_2 q_2 u_2 x_2 y_2 b_2 cell_t froz_t lt_t cell_p froz_p lt_p cell_q froz_q lt_q cell_u froz_u lt_u cell_x froz_x lt_x cell_y froz_y lt_y hX3
  have cell_t:=t_3.cell
  have froz_t:=t_3.frozen
  have lt_t:=t_3.lt
  have cell_p:=p_3.cell
  have froz_p:=p_3.frozen
  have lt_p:=p_3.lt
  have cell_q:=q_3.cell
  have froz_q:=q_3.frozen
  have lt_q:=q_3.lt
  have cell_u:=u_3.cell
  have froz_u:=u_3.frozen
  have lt_u:=u_3.lt
  have cell_x:=x_3.cell
  have froz_x:=x_3.frozen
  have lt_x:=x_3.lt
  have cell_y:=y_3.cell
  have froz_y:=y_3.frozen
  have lt_y:=y_3.lt
  go_wp2_with fail
  refine calls_forget0 (W:=w3) ?_ ?_
  (focus (exact belBy))
  intro X4 hX4
  have sX4:=hX4.size
  refine (TB.out _).mono ?_
  rintro e w4 ⟨rfl,hb4⟩
  have s4:=hb4.size
  have hT4:=hX4.trans (hb4.mono sX4)
  have b_4:=b_3.trans (hT4.mono (by omega))
  have t_4:=Blk.past hT4 t_3
  have p_4:=Blk.past hT4 p_3
  have q_4:=Blk.past hT4 q_3
  have u_4:=Blk.past hT4 u_3
  have x_4:=Blk.past hT4 x_3
  have y_4:=Blk.past hT4 y_3
  clear t_3 p_3 q_3 u_3 x_3 y_3 b_3 cell_t froz_t lt_t cell_p froz_p lt_p cell_q froz_q lt_q cell_u froz_u lt_u cell_x froz_x lt_x cell_y froz_y lt_y hX4 hT4 hb4
  have cell_t:=t_4.cell
  have froz_t:=t_4.frozen
  have lt_t:=t_4.lt
  have cell_p:=p_4.cell
  have froz_p:=p_4.frozen
  have lt_p:=p_4.lt
  have cell_q:=q_4.cell
  have froz_q:=q_4.frozen
  have lt_q:=q_4.lt
  have cell_u:=u_4.cell
  have froz_u:=u_4.frozen
  have lt_u:=u_4.lt
  have cell_x:=x_4.cell
  have froz_x:=x_4.frozen
  have lt_x:=x_4.lt
  have cell_y:=y_4.cell
  have froz_y:=y_4.frozen
  have lt_y:=y_4.lt
  go_wp2_with fail
  refine calls_touch2 (w0:=w4) (L:=[w1.heap.size,w.heap.size]) (b0:=w1.heap.size) (t0:=124) (c0:=#[.int .i64 r0,.int .i64 r1]) (b1:=w.heap.size) (t1:=27) (c1:=#[.int .i64 s,.int .i64 a2]) ?_ ?_ ?_ ?_
  (focus exact blkcBy)
  (focus exact blkcBy)
  (focus (exact tchBy))
  intro w5 x_5 t_5 hX5
  have sX5:=hX5.size
  have b_5:=hX5.below b_4 (by first | (simp; done) | (simp; omega))
  have p_5:=Blk.touch hX5 p_4 (by first | (simp; done) | (simp; omega))
  have q_5:=Blk.touch hX5 q_4 (by first | (simp; done) | (simp; omega))
  have u_5:=Blk.touch hX5 u_4 (by first | (simp; done) | (simp; omega))
  have y_5:=Blk.touch hX5 y_4 (by first | (simp; done) | (simp; omega))
  clear t_4 p_4 q_4 u_4 x_4 y_4 b_4 cell_t froz_t lt_t cell_p froz_p lt_p cell_q froz_q lt_q cell_u froz_u lt_u cell_x froz_x lt_x cell_y froz_y lt_y hX5
  have cell_t:=t_5.cell
  have froz_t:=t_5.frozen
  have lt_t:=t_5.lt
  have cell_p:=p_5.cell
  have froz_p:=p_5.frozen
  have lt_p:=p_5.lt
  have cell_q:=q_5.cell
  have froz_q:=q_5.frozen
  have lt_q:=q_5.lt
  have cell_u:=u_5.cell
  have froz_u:=u_5.frozen
  have lt_u:=u_5.lt
  have cell_x:=x_5.cell
  have froz_x:=x_5.frozen
  have lt_x:=x_5.lt
  have cell_y:=y_5.cell
  have froz_y:=y_5.frozen
  have lt_y:=y_5.lt
  go_wp2_with fail
  refine calls_forget0 (W:=w5) ?_ ?_
  (focus (exact belBy))
  intro X6 hX6
  have sX6:=hX6.size
  refine (TC.out _).mono ?_
  rintro e w6 ⟨rfl,hb6⟩
  have s6:=hb6.size
  have hT6:=hX6.trans (hb6.mono sX6)
  have b_6:=b_5.trans (hT6.mono (by omega))
  have t_6:=Blk.past hT6 t_5
  have p_6:=Blk.past hT6 p_5
  have q_6:=Blk.past hT6 q_5
  have u_6:=Blk.past hT6 u_5
  have x_6:=Blk.past hT6 x_5
  have y_6:=Blk.past hT6 y_5
  clear t_5 p_5 q_5 u_5 x_5 y_5 b_5 cell_t froz_t lt_t cell_p froz_p lt_p cell_q froz_q lt_q cell_u froz_u lt_u cell_x froz_x lt_x cell_y froz_y lt_y hX6 hT6 hb6
  have cell_t:=t_6.cell
  have froz_t:=t_6.frozen
  have lt_t:=t_6.lt
  have cell_p:=p_6.cell
  have froz_p:=p_6.frozen
  have lt_p:=p_6.lt
  have cell_q:=q_6.cell
  have froz_q:=q_6.frozen
  have lt_q:=q_6.lt
  have cell_u:=u_6.cell
  have froz_u:=u_6.frozen
  have lt_u:=u_6.lt
  have cell_x:=x_6.cell
  have froz_x:=x_6.frozen
  have lt_x:=x_6.lt
  have cell_y:=y_6.cell
  have froz_y:=y_6.frozen
  have lt_y:=y_6.lt
  go_upto_region 11 with fail
  refine wp_touch2 (w0:=w6) (L:=[w1.heap.size + 1,w.heap.size]) (b0:=w1.heap.size + 1) (t0:=126) (c0:=#[.int .i64 cc,.int .i64 r0]) (b1:=w.heap.size) (t1:=27) (c1:=#[.int .i64 s,.int .i64 a3]) ?_ ?_ ?_ ?_
  (focus exact blkcBy)
  (focus exact blkcBy)
  (focus (exact tchBy))
  intro w7 y_7 t_7 hX7
  have sX7:=hX7.size
  have b_7:=hX7.below b_6 (by first | (simp; done) | (simp; omega))
  have p_7:=Blk.touch hX7 p_6 (by first | (simp; done) | (simp; omega))
  have q_7:=Blk.touch hX7 q_6 (by first | (simp; done) | (simp; omega))
  have u_7:=Blk.touch hX7 u_6 (by first | (simp; done) | (simp; omega))
  have x_7:=Blk.touch hX7 x_6 (by first | (simp; done) | (simp; omega))
  clear t_6 p_6 q_6 u_6 x_6 y_6 b_6 cell_t froz_t lt_t cell_p froz_p lt_p cell_q froz_q lt_q cell_u froz_u lt_u cell_x froz_x lt_x cell_y froz_y lt_y hX7
  have cell_t:=t_7.cell
  have froz_t:=t_7.frozen
  have lt_t:=t_7.lt
  have cell_p:=p_7.cell
  have froz_p:=p_7.frozen
  have lt_p:=p_7.lt
  have cell_q:=q_7.cell
  have froz_q:=q_7.frozen
  have lt_q:=q_7.lt
  have cell_u:=u_7.cell
  have froz_u:=u_7.frozen
  have lt_u:=u_7.lt
  have cell_x:=x_7.cell
  have froz_x:=x_7.frozen
  have lt_x:=x_7.lt
  have cell_y:=y_7.cell
  have froz_y:=y_7.frozen
  have lt_y:=y_7.lt
  go_wp2_with fail
  go_region_held3 (fun w'=>w'.cell? ⟨w.heap.size,0,none⟩=some (.int .i64 s)∧w'.cell? ⟨w.heap.size,1,none⟩=some (.int .i64 a3)∧w'.cell? ⟨w1.heap.size,0,none⟩=some (.int .i64 r0)∧w'.cell? ⟨w1.heap.size,1,none⟩=some (.int .i64 r1)∧w'.cell? ⟨w1.heap.size + 1,0,none⟩=some (.int .i64 cc)∧w'.cell? ⟨w1.heap.size + 1,1,none⟩=some (.int .i64 r0)) ((refine ⟨(Blk.cell (t:=27) (cs:=#[.int .i64 s,.int .i64 a3]) ?qt 0),(Blk.cell ?qt 1),(Blk.cell (t:=124) (cs:=#[.int .i64 r0,.int .i64 r1]) ?qx 0),(Blk.cell ?qx 1),(Blk.cell (t:=126) (cs:=#[.int .i64 cc,.int .i64 r0]) ?qy 0),(Blk.cell ?qy 1)⟩; (case qt=>(exact blkBy)); (case qx=>(exact blkBy)); (case qy=>(exact blkBy)))) (fail)
  all_goals
   go_wp2_with fail
   ((try simp only [Exit.inBlock,Exit.then]); apply bodyPost_ret0; focus ((try simp only [results,Tryz.results97]); (try go_simp); (try rfl)))
   refine ⟨rfl,?_⟩
   exact belBy
 ·rw [pick_yes]
  go_enter Tryz.func97,Tryz.ntmps97
  have b_0:=(Below.refl w.heap.size w)
  have s_0:=b_0.size
  go_wp2_with fail
  refine calls_forget4 (W:=w) (b0:=w.heap.size) (t0:=27) (c0:=#[.int .i64 s,.int .i64 a]) (b1:=w.heap.size + 1) (t1:=124) (c1:=#[.int .i64 0,.int .i64 0]) (b2:=w.heap.size + 2) (t2:=126) (c2:=#[.int .i64 0,.int .i64 0]) (b3:=w.heap.size + 3) (t3:=27) (c3:=#[.int .i64 0,.int .i64 0]) ?_ ?_ ?_ ?_ ?_ ?_
  (focus exact blkcBy)
  (focus exact blkcBy)
  (focus exact blkcBy)
  (focus exact blkcBy)
  (focus (exact belBy))
  intro X1 t_n p_n q_n u_n hX1
  have sX1:=hX1.size
  have t_lt:=t_n.lt
  have p_lt:=p_n.lt
  have q_lt:=q_n.lt
  have u_lt:=u_n.lt
  refine (iTapeOk _ _ _).mono ?_
  rintro e w1 ⟨rfl,hb1⟩
  have s1:=hb1.size
  have hT1:=hX1.trans (hb1.mono sX1)
  have b_1:=b_0.trans (hT1.mono (by omega))
  have t_1:=Blk.past hb1 t_n
  have p_1:=Blk.past hb1 p_n
  have q_1:=Blk.past hb1 q_n
  have u_1:=Blk.past hb1 u_n
  clear b_0 t_n p_n q_n u_n hX1 hT1 hb1
  have cell_t:=t_1.cell
  have froz_t:=t_1.frozen
  have lt_t:=t_1.lt
  have cell_p:=p_1.cell
  have froz_p:=p_1.frozen
  have lt_p:=p_1.lt
  have cell_q:=q_1.cell
  have froz_q:=q_1.frozen
  have lt_q:=q_1.lt
  have cell_u:=u_1.cell
  have froz_u:=u_1.frozen
  have lt_u:=u_1.lt
  go_wp2_with fail
  refine calls_forget2 (W:=w1) (b0:=w1.heap.size) (t0:=124) (c0:=#[.int .i64 0,.int .i64 0]) (b1:=w1.heap.size + 1) (t1:=126) (c1:=#[.int .i64 0,.int .i64 0]) ?_ ?_ ?_ ?_
  (focus exact blkcBy)
  (focus exact blkcBy)
  (focus (exact belBy))
  intro X2 x_n y_n hX2
  have sX2:=hX2.size
  have x_lt:=x_n.lt
  have y_lt:=y_n.lt
  refine (TA.out _).mono ?_
  rintro e w2 ⟨rfl,hb2⟩
  have s2:=hb2.size
  have hT2:=hX2.trans (hb2.mono sX2)
  have b_2:=b_1.trans (hT2.mono (by omega))
  have t_2:=Blk.past hT2 t_1
  have p_2:=Blk.past hT2 p_1
  have q_2:=Blk.past hT2 q_1
  have u_2:=Blk.past hT2 u_1
  have x_2:=Blk.past hb2 x_n
  have y_2:=Blk.past hb2 y_n
  clear t_1 p_1 q_1 u_1 b_1 cell_t froz_t lt_t cell_p froz_p lt_p cell_q froz_q lt_q cell_u froz_u lt_u x_n y_n hX2 hT2 hb2
  have cell_t:=t_2.cell
  have froz_t:=t_2.frozen
  have lt_t:=t_2.lt
  have cell_p:=p_2.cell
  have froz_p:=p_2.frozen
  have lt_p:=p_2.lt
  have cell_q:=q_2.cell
  have froz_q:=q_2.frozen
  have lt_q:=q_2.lt
  have cell_u:=u_2.cell
  have froz_u:=u_2.frozen
  have lt_u:=u_2.lt
  have cell_x:=x_2.cell
  have froz_x:=x_2.frozen
  have lt_x:=x_2.lt
  have cell_y:=y_2.cell
  have froz_y:=y_2.frozen
  have lt_y:=y_2.lt
  go_wp2_with fail
  refine calls_touch2 (w0:=w2) (L:=[w1.heap.size,w.heap.size]) (b0:=w1.heap.size) (t0:=124) (c0:=#[.int .i64 r0,.int .i64 0]) (b1:=w.heap.size) (t1:=27) (c1:=#[.int .i64 s,.int .i64 a1]) ?_ ?_ ?_ ?_
  (focus exact blkcBy)
  (focus exact blkcBy)
  (focus (exact tchBy))
  intro w3 x_3 t_3 hX3
  have sX3:=hX3.size
  have b_3:=hX3.below b_2 (by first | (simp; done) | (simp; omega))
  have p_3:=Blk.touch hX3 p_2 (by first | (simp; done) | (simp; omega))
  have q_3:=Blk.touch hX3 q_2 (by first | (simp; done) | (simp; omega))
  have u_3:=Blk.touch hX3 u_2 (by first | (simp; done) | (simp; omega))
  have y_3:=Blk.touch hX3 y_2 (by first | (simp; done) | (simp; omega))
  clear t_2 p_2 q_2 u_2 x_2 y_2 b_2 cell_t froz_t lt_t cell_p froz_p lt_p cell_q froz_q lt_q cell_u froz_u lt_u cell_x froz_x lt_x cell_y froz_y lt_y hX3
  have cell_t:=t_3.cell
  have froz_t:=t_3.frozen
  have lt_t:=t_3.lt
  have cell_p:=p_3.cell
  have froz_p:=p_3.frozen
  have lt_p:=p_3.lt
  have cell_q:=q_3.cell
  have froz_q:=q_3.frozen
  have lt_q:=q_3.lt
  have cell_u:=u_3.cell
  have froz_u:=u_3.frozen
  have lt_u:=u_3.lt
  have cell_x:=x_3.cell
  have froz_x:=x_3.frozen
  have lt_x:=x_3.lt
  have cell_y:=y_3.cell
  have froz_y:=y_3.frozen
  have lt_y:=y_3.lt
  go_wp2_with fail
  refine calls_forget0 (W:=w3) ?_ ?_
  (focus (exact belBy))
  intro X4 hX4
  have sX4:=hX4.size
  refine (TB.out _).mono ?_
  rintro e w4 ⟨rfl,hb4⟩
  have s4:=hb4.size
  have hT4:=hX4.trans (hb4.mono sX4)
  have b_4:=b_3.trans (hT4.mono (by omega))
  have t_4:=Blk.past hT4 t_3
  have p_4:=Blk.past hT4 p_3
  have q_4:=Blk.past hT4 q_3
  have u_4:=Blk.past hT4 u_3
  have x_4:=Blk.past hT4 x_3
  have y_4:=Blk.past hT4 y_3
  clear t_3 p_3 q_3 u_3 x_3 y_3 b_3 cell_t froz_t lt_t cell_p froz_p lt_p cell_q froz_q lt_q cell_u froz_u lt_u cell_x froz_x lt_x cell_y froz_y lt_y hX4 hT4 hb4
  have cell_t:=t_4.cell
  have froz_t:=t_4.frozen
  have lt_t:=t_4.lt
  have cell_p:=p_4.cell
  have froz_p:=p_4.frozen
  have lt_p:=p_4.lt
  have cell_q:=q_4.cell
  have froz_q:=q_4.frozen
  have lt_q:=q_4.lt
  have cell_u:=u_4.cell
  have froz_u:=u_4.frozen
  have lt_u:=u_4.lt
  have cell_x:=x_4.cell
  have froz_x:=x_4.frozen
  have lt_x:=x_4.lt
  have cell_y:=y_4.cell
  have froz_y:=y_4.frozen
  have lt_y:=y_4.lt
  go_wp2_with fail
  refine calls_touch2 (w0:=w4) (L:=[w1.heap.size,w.heap.size]) (b0:=w1.heap.size) (t0:=124) (c0:=#[.int .i64 r0,.int .i64 r1]) (b1:=w.heap.size) (t1:=27) (c1:=#[.int .i64 s,.int .i64 a2]) ?_ ?_ ?_ ?_
  (focus exact blkcBy)
  (focus exact blkcBy)
  (focus (exact tchBy))
  intro w5 x_5 t_5 hX5
  have sX5:=hX5.size
  have b_5:=hX5.below b_4 (by first | (simp; done) | (simp; omega))
  have p_5:=Blk.touch hX5 p_4 (by first | (simp; done) | (simp; omega))
  have q_5:=Blk.touch hX5 q_4 (by first | (simp; done) | (simp; omega))
  have u_5:=Blk.touch hX5 u_4 (by first | (simp; done) | (simp; omega))
  have y_5:=Blk.touch hX5 y_4 (by first | (simp; done) | (simp; omega))
  clear t_4 p_4 q_4 u_4 x_4 y_4 b_4 cell_t froz_t lt_t cell_p froz_p lt_p cell_q froz_q lt_q cell_u froz_u lt_u cell_x froz_x lt_x cell_y froz_y lt_y hX5
  have cell_t:=t_5.cell
  have froz_t:=t_5.frozen
  have lt_t:=t_5.lt
  have cell_p:=p_5.cell
  have froz_p:=p_5.frozen
  have lt_p:=p_5.lt
  have cell_q:=q_5.cell
  have froz_q:=q_5.frozen
  have lt_q:=q_5.lt
  have cell_u:=u_5.cell
  have froz_u:=u_5.frozen
  have lt_u:=u_5.lt
  have cell_x:=x_5.cell
  have froz_x:=x_5.frozen
  have lt_x:=x_5.lt
  have cell_y:=y_5.cell
  have froz_y:=y_5.frozen
  have lt_y:=y_5.lt
  go_wp2_with fail
  refine calls_forget0 (W:=w5) ?_ ?_
  (focus (exact belBy))
  intro X6 hX6
  have sX6:=hX6.size
  refine (TC.out _).mono ?_
  rintro e w6 ⟨rfl,hb6⟩
  have s6:=hb6.size
  have hT6:=hX6.trans (hb6.mono sX6)
  have b_6:=b_5.trans (hT6.mono (by omega))
  have t_6:=Blk.past hT6 t_5
  have p_6:=Blk.past hT6 p_5
  have q_6:=Blk.past hT6 q_5
  have u_6:=Blk.past hT6 u_5
  have x_6:=Blk.past hT6 x_5
  have y_6:=Blk.past hT6 y_5
  clear t_5 p_5 q_5 u_5 x_5 y_5 b_5 cell_t froz_t lt_t cell_p froz_p lt_p cell_q froz_q lt_q cell_u froz_u lt_u cell_x froz_x lt_x cell_y froz_y lt_y hX6 hT6 hb6
  have cell_t:=t_6.cell
  have froz_t:=t_6.frozen
  have lt_t:=t_6.lt
  have cell_p:=p_6.cell
  have froz_p:=p_6.frozen
  have lt_p:=p_6.lt
  have cell_q:=q_6.cell
  have froz_q:=q_6.frozen
  have lt_q:=q_6.lt
  have cell_u:=u_6.cell
  have froz_u:=u_6.frozen
  have lt_u:=u_6.lt
  have cell_x:=x_6.cell
  have froz_x:=x_6.frozen
  have lt_x:=x_6.lt
  have cell_y:=y_6.cell
  have froz_y:=y_6.frozen
  have lt_y:=y_6.lt
  go_upto_region 11 with fail
  refine wp_touch2 (w0:=w6) (L:=[w1.heap.size + 1,w.heap.size]) (b0:=w1.heap.size + 1) (t0:=126) (c0:=#[.int .i64 cc,.int .i64 r1]) (b1:=w.heap.size) (t1:=27) (c1:=#[.int .i64 s,.int .i64 a3]) ?_ ?_ ?_ ?_
  (focus exact blkcBy)
  (focus exact blkcBy)
  (focus (exact tchBy))
  intro w7 y_7 t_7 hX7
  have sX7:=hX7.size
  have b_7:=hX7.below b_6 (by first | (simp; done) | (simp; omega))
  have p_7:=Blk.touch hX7 p_6 (by first | (simp; done) | (simp; omega))
  have q_7:=Blk.touch hX7 q_6 (by first | (simp; done) | (simp; omega))
  have u_7:=Blk.touch hX7 u_6 (by first | (simp; done) | (simp; omega))
  have x_7:=Blk.touch hX7 x_6 (by first | (simp; done) | (simp; omega))
  clear t_6 p_6 q_6 u_6 x_6 y_6 b_6 cell_t froz_t lt_t cell_p froz_p lt_p cell_q froz_q lt_q cell_u froz_u lt_u cell_x froz_x lt_x cell_y froz_y lt_y hX7
  have cell_t:=t_7.cell
  have froz_t:=t_7.frozen
  have lt_t:=t_7.lt
  have cell_p:=p_7.cell
  have froz_p:=p_7.frozen
  have lt_p:=p_7.lt
  have cell_q:=q_7.cell
  have froz_q:=q_7.frozen
  have lt_q:=q_7.lt
  have cell_u:=u_7.cell
  have froz_u:=u_7.frozen
  have lt_u:=u_7.lt
  have cell_x:=x_7.cell
  have froz_x:=x_7.frozen
  have lt_x:=x_7.lt
  have cell_y:=y_7.cell
  have froz_y:=y_7.frozen
  have lt_y:=y_7.lt
  go_wp2_with fail
  go_region_held3 (fun w'=>w'.cell? ⟨w.heap.size,0,none⟩=some (.int .i64 s)∧w'.cell? ⟨w.heap.size,1,none⟩=some (.int .i64 a3)∧w'.cell? ⟨w1.heap.size,0,none⟩=some (.int .i64 r0)∧w'.cell? ⟨w1.heap.size,1,none⟩=some (.int .i64 r1)∧w'.cell? ⟨w1.heap.size + 1,0,none⟩=some (.int .i64 cc)∧w'.cell? ⟨w1.heap.size + 1,1,none⟩=some (.int .i64 r1)) ((refine ⟨(Blk.cell (t:=27) (cs:=#[.int .i64 s,.int .i64 a3]) ?qt 0),(Blk.cell ?qt 1),(Blk.cell (t:=124) (cs:=#[.int .i64 r0,.int .i64 r1]) ?qx 0),(Blk.cell ?qx 1),(Blk.cell (t:=126) (cs:=#[.int .i64 cc,.int .i64 r1]) ?qy 0),(Blk.cell ?qy 1)⟩; (case qt=>(exact blkBy)); (case qx=>(exact blkBy)); (case qy=>(exact blkBy)))) (fail)
  all_goals
   go_wp2_with fail
   ((try simp only [Exit.inBlock,Exit.then]); apply bodyPost_ret0; focus ((try simp only [results,Tryz.results97]); (try go_simp); (try rfl)))
   refine ⟨rfl,?_⟩
   exact belBy
open Go.RowKit
theorem iLab3' (a b d:Int) (c:Nat) (t:TypeId) (w:World) (n:Nat) (hn:n=w.heap.size) (ha:labelB a=true) (hb:labelB b=true) (hd:labelB d=true) :
  Calls Tryz.prog 110 #[.slice (some ⟨n,0,none⟩) 3 c] (w.alloc (.cells #[.int .i64 a,.int .i64 b,.int .i64 d] t)) fun e w'=>e=.returned (.bool true)∧(w.alloc (.cells #[.int .i64 a,.int .i64 b,.int .i64 d] t))=w':=by
 subst hn
 exact iLab3 a b d c t w ha hb hd
theorem iLab4' (a b d f:Int) (c:Nat) (t:TypeId) (w:World) (n:Nat) (hn:n=w.heap.size) (ha:labelB a=true) (hb:labelB b=true) (hd:labelB d=true) (hf:labelB f=true) :
  Calls Tryz.prog 110 #[.slice (some ⟨n,0,none⟩) 4 c] (w.alloc (.cells #[.int .i64 a,.int .i64 b,.int .i64 d,.int .i64 f] t)) fun e w'=>e=.returned (.bool true)∧(w.alloc (.cells #[.int .i64 a,.int .i64 b,.int .i64 d,.int .i64 f] t))=w':=by
 subst hn
 exact iLab4 a b d f c t w ha hb hd hf
theorem iOtAsk (b c r:Int) (w:World) (hb:inB b 0 1=true) (hc:inB c 0 1=true) :
  Calls Tryz.prog 101 #[.int .i64 b,.agg #[.int .i64 c,.int .i64 r]] w fun e w'=>e=.returned (.int .i64 (bits .xor .i64 b c))∧Below w.heap.size w w':=by
 go_enter Tryz.func101,Tryz.ntmps101
 go_wp2_with (go_at_call 56; refine (iWithin _ _ _ _).mono ?_; rintro e w' ⟨rfl,rfl⟩)
 go_ret
 refine ⟨rfl,?_⟩
 exact belBy
set_option maxHeartbeats 1600000 in
theorem iOtReply (m0 m1 r0 r1 d:Int) (w:World) (h0:labelB m0=true) (h1:labelB m1=true) (h2:labelB r0=true) (h3:labelB r1=true) (hd:inB d 0 1=true) :
  Calls Tryz.prog 99 #[.int .i64 m0,.int .i64 m1,.agg #[.int .i64 r0,.int .i64 r1],.int .i64 d] w fun e w'=>e=.returned (.tuple #[.int .i64 (replyI m0 r0 r1 d),.int .i64 (replyI m1 r1 r0 d)])∧Below w.heap.size w w':=by
 rcases bit_cases hd with rfl | rfl
 ·go_enter Tryz.func99,Tryz.ntmps99
  have b_0:=(Below.refl w.heap.size w)
  have s_0:=b_0.size
  go_upto_region 5 with (first | (go_at_call 110; refine (iLab4' _ _ _ _ _ _ _ _ (by simp) h0 h1 h2 h3).mono ?_; rintro e w' ⟨rfl,rfl⟩) | (go_at_call 56; refine (iWithin _ _ _ _).mono ?_; rintro e w' ⟨rfl,rfl⟩))
  refine wp_forget1 (w0:=w) (B:=w.heap.size) (b0:=w.heap.size) (t0:=124) (c0:=#[.int .i64 r0,.int .i64 r1]) ?_ ?_ ?_
  (focus exact blkcBy)
  (focus (exact belBy))
  intro w1 x_1 hX1
  have sX1:=hX1.size
  have x_lt:=x_1.lt
  have b_1:=b_0.trans (hX1.mono (by omega))
  clear b_0 hX1
  have cell_x:=x_1.cell
  have froz_x:=x_1.frozen
  have lt_x:=x_1.lt
  go_wp2_with fail
  go_region_held3 (fun w'=>w'.cell? ⟨w.heap.size,0,none⟩=some (.int .i64 r0)∧w'.cell? ⟨w.heap.size,1,none⟩=some (.int .i64 r1)) ((refine ⟨(Blk.cell (t:=124) (cs:=#[.int .i64 r0,.int .i64 r1]) ?qx 0),(Blk.cell ?qx 1)⟩; (case qx=>(exact blkBy)))) (fail)
  all_goals
   go_wp2_with fail
   ((try simp only [Exit.inBlock,Exit.then]); apply bodyPost_ret0; focus ((try simp only [results,Tryz.results99]); (try go_simp); (try rfl)))
   refine ⟨rfl,?_⟩
   exact belBy
 ·go_enter Tryz.func99,Tryz.ntmps99
  have b_0:=(Below.refl w.heap.size w)
  have s_0:=b_0.size
  go_upto_region 4 with (first | (go_at_call 110; refine (iLab4' _ _ _ _ _ _ _ _ (by simp) h0 h1 h2 h3).mono ?_; rintro e w' ⟨rfl,rfl⟩) | (go_at_call 56; refine (iWithin _ _ _ _).mono ?_; rintro e w' ⟨rfl,rfl⟩))
  refine wp_forget1 (w0:=w) (B:=w.heap.size) (b0:=w.heap.size) (t0:=124) (c0:=#[.int .i64 r0,.int .i64 r1]) ?_ ?_ ?_
  (focus exact blkcBy)
  (focus (exact belBy))
  intro w1 x_1 hX1
  have sX1:=hX1.size
  have x_lt:=x_1.lt
  have b_1:=b_0.trans (hX1.mono (by omega))
  clear b_0 hX1
  have cell_x:=x_1.cell
  have froz_x:=x_1.frozen
  have lt_x:=x_1.lt
  go_wp2_with fail
  go_region_held3 (fun w'=>w'.cell? ⟨w.heap.size,0,none⟩=some (.int .i64 r0)∧w'.cell? ⟨w.heap.size,1,none⟩=some (.int .i64 r1)) ((refine ⟨(Blk.cell (t:=124) (cs:=#[.int .i64 r0,.int .i64 r1]) ?qx 0),(Blk.cell ?qx 1)⟩; (case qx=>(exact blkBy)))) (fail)
  all_goals
   go_wp2_with fail
   ((try simp only [Exit.inBlock,Exit.then]); apply bodyPost_ret0; focus ((try simp only [results,Tryz.results99]); (try go_simp); (try rfl)))
   refine ⟨rfl,?_⟩
   exact belBy
set_option maxHeartbeats 1600000 in
theorem iOtReceive (e0 e1 b c r:Int) (w:World) (h0:labelB e0=true) (h1:labelB e1=true) (hr:labelB r=true) (hb:inB b 0 1=true) :
  Calls Tryz.prog 102 #[.int .i64 e0,.int .i64 e1,.int .i64 b,.agg #[.int .i64 c,.int .i64 r]] w fun e w'=>e=.returned (.int .i64 (recvI e0 e1 b r))∧Below w.heap.size w w':=by
 have hs0:=hid (xor_swap h0 hr)
 have hs1:=hid (xor_swap h1 hr)
 rcases bit_cases hb with rfl | rfl
 all_goals
  go_enter Tryz.func102,Tryz.ntmps102
  go_wp2_with (first | (go_at_call 110; refine (iLab3' _ _ _ _ _ _ _ (by simp) h0 h1 hr).mono ?_; rintro e w' ⟨rfl,rfl⟩) | (go_at_call 56; refine (iWithin _ _ _ _).mono ?_; rintro e w' ⟨rfl,rfl⟩))
  go_ret
  refine ⟨ret_int (by first | exact hs0.out.symm | exact hs1.out.symm),?_⟩
  exact belBy
end Go.Proofs.YtihbaieiempjeaaGreat
