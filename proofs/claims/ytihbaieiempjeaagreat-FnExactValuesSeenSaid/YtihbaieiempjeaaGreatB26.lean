/- Lemmas of the proof: VwS, Structs, LawX, Flat, StmtV. -/
import Derived.Test.YtihbaieiempjeaaGreatB0
import Derived.Test.YtihbaieiempjeaaGreatB24
import Derived.Test.YtihbaieiempjeaaGreatB25
import Derived.Test.YtihbaieiempjeaaGreatB21
import Derived.Test.YtihbaieiempjeaaGreatB2
import Derived.Laws.MakeOwn
import Derived.Test.YtihbaieiempjeaaGreatB1
import Derived.Outline
import Derived.Deep.DeepCutAuto
import Derived.Deep.RegionHeld3
namespace Go.Proofs.YtihbaieiempjeaaGreat
open Go.RowKit
set_option linter.unusedVariables false in
set_option maxRecDepth 100000 in
set_option maxHeartbeats 6400000 in
theorem sWireNo (A:Option Addr) (c:Nat) (L:List St) (Ai:Option Addr) (ci:Nat) (ls:List In1) (s a:Int) (w:World) (hc:Cells w w.heap.size A (ints (flatS L))) (hn:L.length≤1000000000) (hci:Cells w w.heap.size Ai (insW ls)) (hi:InsW w w.heap.size ls) (hm:ls.length + totL ls≤1000000000) (hv:viewB L (insN ls) s a=false) :
  Calls Tryz.prog 23 #[.slice A L.length c,.slice Ai ls.length ci,.agg #[.int .i64 s,.int .i64 a]] w (GivesPair w [] false):=by
 have HU:=hid (fun w hc=>(show Calls Tryz.prog 41 #[.slice A L.length c] w (fun e w'=>∃ g k,e=.returned (.tuple #[.slice (some ⟨g,0,none⟩) (unrL L).length k,.bool (unrB L)])∧Below w.heap.size w w') from Calls.mono (sUnroll A c L w hc hn) (fun e w' ⟨g,k,h1,_,_,h4⟩=>⟨g,k,h1,h4⟩)))
 have HIO:=hid (fun w' (h:Below w.heap.size w w')=>sInsOk Ai ci ls w' ((hci.below h).more h.size) ((hi.below h (Nat.le_refl _)).more h.size) (by omega) (fun q hq=>by have:=totL_mem hq; omega))
 have HTK:=hid (fun w=>s_l38 s a w)
 obtain ⟨un,hun⟩:∃ x,(unrL L).length=x:=⟨_,rfl⟩
 rw [hun] at HU
 unfold viewB at hv
 clear hun hci hi hm hn
 cases hu:unrB L
 ·rw [hu] at HU
  clear hv hu
  clear HIO HTK
  go_enter Tryz.func23,Tryz.ntmps23
  have b_0:=(Below.refl w.heap.size w)
  have s_0:=b_0.size
  have xs_0:=hc
  clear hc
  go_upto_region 1 with fail
  refine wp_forget1 (w0:=w) (B:=w.heap.size) (b0:=w.heap.size) (t0:=27) (c0:=#[.int .i64 s,.int .i64 a]) ?_ ?_ ?_
  (focus exact blkcBy2)
  (focus (exact belBy))
  intro w1 t_1 hX1
  have sX1:=hX1.size
  have t_lt:=t_1.lt
  have b_1:=b_0.trans (hX1.mono (by omega))
  have xs_1:=cells_below xs_0 hX1 (by omega)
  clear xs_0 b_0 hX1
  have cell_t:=t_1.cell
  have froz_t:=t_1.frozen
  have lt_t:=t_1.lt
  go_wp2_with fail
  refine calls_forget0 (W:=w1) ?_ ?_
  (focus (exact belBy))
  intro X2 hX2
  have sX2:=hX2.size
  refine (HU.out _ ((cells_below xs_1 hX2 (by omega)).more (by omega))).mono ?_
  rintro e w2 ⟨gU,kU,rfl,hb2⟩
  have s2:=hb2.size
  have hT2:=hX2.trans (hb2.mono sX2)
  have b_2:=b_1.trans (hT2.mono (by omega))
  have xs_2:=cells_below xs_1 hT2 (by omega)
  have t_2:=Blk.past hT2 t_1
  clear xs_1 t_1 b_1 cell_t froz_t lt_t hX2 hT2 hb2
  have cell_t:=t_2.cell
  have froz_t:=t_2.frozen
  have lt_t:=t_2.lt
  have HB:=hid b_2
  clear b_2
  go_wp2
  ((try simp only [Exit.inBlock,Exit.then]); apply bodyPost_ret0; focus ((try simp only [results,Tryz.results23]); (try go_simp); (try rfl)))
  have hb:=HB.out
  have hz:=hb.size
  exact ⟨_,_,rfl,own_lit (size:=1) #[] 0 rfl hz (Nat.zero_le _) rfl,hb.alloc hz _⟩
 cases hib:insB (insN ls)
 ·rw [hu] at HU
  rw [hib] at HIO
  clear hv hu hib
  clear HTK
  go_enter Tryz.func23,Tryz.ntmps23
  have b_0:=(Below.refl w.heap.size w)
  have s_0:=b_0.size
  have xs_0:=hc
  clear hc
  go_upto_region 1 with fail
  refine wp_forget1 (w0:=w) (B:=w.heap.size) (b0:=w.heap.size) (t0:=27) (c0:=#[.int .i64 s,.int .i64 a]) ?_ ?_ ?_
  (focus exact blkcBy2)
  (focus (exact belBy))
  intro w1 t_1 hX1
  have sX1:=hX1.size
  have t_lt:=t_1.lt
  have b_1:=b_0.trans (hX1.mono (by omega))
  have xs_1:=cells_below xs_0 hX1 (by omega)
  clear xs_0 b_0 hX1
  have cell_t:=t_1.cell
  have froz_t:=t_1.frozen
  have lt_t:=t_1.lt
  go_wp2_with fail
  refine calls_forget0 (W:=w1) ?_ ?_
  (focus (exact belBy))
  intro X2 hX2
  have sX2:=hX2.size
  refine (HU.out _ ((cells_below xs_1 hX2 (by omega)).more (by omega))).mono ?_
  rintro e w2 ⟨gU,kU,rfl,hb2⟩
  have s2:=hb2.size
  have hT2:=hX2.trans (hb2.mono sX2)
  have b_2:=b_1.trans (hT2.mono (by omega))
  have xs_2:=cells_below xs_1 hT2 (by omega)
  have t_2:=Blk.past hT2 t_1
  clear xs_1 t_1 b_1 cell_t froz_t lt_t hX2 hT2 hb2
  have cell_t:=t_2.cell
  have froz_t:=t_2.frozen
  have lt_t:=t_2.lt
  go_wp2_with fail
  refine calls_forget0 (W:=w2) ?_ ?_
  (focus (exact belBy))
  intro X3 hX3
  have sX3:=hX3.size
  refine (HIO.out _ (b_2.trans (hX3.mono (by omega)))).mono ?_
  rintro e w' ⟨rfl,rfl⟩
  have b_3:=b_2.trans (hX3.mono (by omega))
  have xs_3:=cells_below xs_2 hX3 (by omega)
  have t_3:=Blk.past hX3 t_2
  clear xs_2 t_2 b_2 cell_t froz_t lt_t hX3
  have cell_t:=t_3.cell
  have froz_t:=t_3.frozen
  have lt_t:=t_3.lt
  have HB:=hid b_3
  clear b_3
  go_wp2
  ((try simp only [Exit.inBlock,Exit.then]); apply bodyPost_ret0; focus ((try simp only [results,Tryz.results23]); (try go_simp); (try rfl)))
  have hb:=HB.out
  have hz:=hb.size
  exact ⟨_,_,rfl,own_lit (size:=1) #[] 0 rfl hz (Nat.zero_le _) rfl,hb.alloc hz _⟩
 ·rw [hu,hib] at hv
  have hta:(tapeOkB s a && decide (a≤800000))=false:=by simpa using hv
  rw [hu] at HU
  rw [hib] at HIO
  rw [hta] at HTK
  clear hv hu hib hta
  skip
  go_enter Tryz.func23,Tryz.ntmps23
  have b_0:=(Below.refl w.heap.size w)
  have s_0:=b_0.size
  have xs_0:=hc
  clear hc
  go_upto_region 1 with fail
  refine wp_forget1 (w0:=w) (B:=w.heap.size) (b0:=w.heap.size) (t0:=27) (c0:=#[.int .i64 s,.int .i64 a]) ?_ ?_ ?_
  (focus exact blkcBy2)
  (focus (exact belBy))
  intro w1 t_1 hX1
  have sX1:=hX1.size
  have t_lt:=t_1.lt
  have b_1:=b_0.trans (hX1.mono (by omega))
  have xs_1:=cells_below xs_0 hX1 (by omega)
  clear xs_0 b_0 hX1
  have cell_t:=t_1.cell
  have froz_t:=t_1.frozen
  have lt_t:=t_1.lt
  go_wp2_with fail
  refine calls_forget0 (W:=w1) ?_ ?_
  (focus (exact belBy))
  intro X2 hX2
  have sX2:=hX2.size
  refine (HU.out _ ((cells_below xs_1 hX2 (by omega)).more (by omega))).mono ?_
  rintro e w2 ⟨gU,kU,rfl,hb2⟩
  have s2:=hb2.size
  have hT2:=hX2.trans (hb2.mono sX2)
  have b_2:=b_1.trans (hT2.mono (by omega))
  have xs_2:=cells_below xs_1 hT2 (by omega)
  have t_2:=Blk.past hT2 t_1
  clear xs_1 t_1 b_1 cell_t froz_t lt_t hX2 hT2 hb2
  have cell_t:=t_2.cell
  have froz_t:=t_2.frozen
  have lt_t:=t_2.lt
  go_wp2_with fail
  refine calls_forget0 (W:=w2) ?_ ?_
  (focus (exact belBy))
  intro X3 hX3
  have sX3:=hX3.size
  refine (HIO.out _ (b_2.trans (hX3.mono (by omega)))).mono ?_
  rintro e w' ⟨rfl,rfl⟩
  have b_3:=b_2.trans (hX3.mono (by omega))
  have xs_3:=cells_below xs_2 hX3 (by omega)
  have t_3:=Blk.past hX3 t_2
  clear xs_2 t_2 b_2 cell_t froz_t lt_t hX3
  have cell_t:=t_3.cell
  have froz_t:=t_3.frozen
  have lt_t:=t_3.lt
  go_wp2_with fail
  refine calls_forget0 (W:=X3) ?_ ?_
  (focus (exact belBy))
  intro X4 hX4
  have sX4:=hX4.size
  refine (HTK.out _).mono ?_
  rintro e w4 ⟨rfl,hb4⟩
  have s4:=hb4.size
  have hT4:=hX4.trans (hb4.mono sX4)
  have b_4:=b_3.trans (hT4.mono (by omega))
  have xs_4:=cells_below xs_3 hT4 (by omega)
  have t_4:=Blk.past hT4 t_3
  clear xs_3 t_3 b_3 cell_t froz_t lt_t hX4 hT4 hb4
  have cell_t:=t_4.cell
  have froz_t:=t_4.frozen
  have lt_t:=t_4.lt
  have HB:=hid b_4
  clear b_4
  go_wp2
  ((try simp only [Exit.inBlock,Exit.then]); apply bodyPost_ret0; focus ((try simp only [results,Tryz.results23]); (try go_simp); (try rfl)))
  have hb:=HB.out
  have hz:=hb.size
  exact ⟨_,_,rfl,own_lit (size:=1) #[] 0 rfl hz (Nat.zero_le _) rfl,hb.alloc hz _⟩
set_option linter.unusedVariables false in
set_option maxRecDepth 100000 in
set_option maxHeartbeats 6400000 in
theorem sWireView (A:Option Addr) (c:Nat) (L:List St) (Ai:Option Addr) (ci:Nat) (ls:List In1) (s a:Int) (w:World) (hc:Cells w w.heap.size A (ints (flatS L))) (hn:L.length≤1000000000) (hci:Cells w w.heap.size Ai (insW ls)) (hi:InsW w w.heap.size ls) (hm:ls.length + totL ls≤1000000000) :
  Calls Tryz.prog 23 #[.slice A L.length c,.slice Ai ls.length ci,.agg #[.int .i64 s,.int .i64 a]] w (GivesPair w (viewL L (insN ls) s a) (viewB L (insN ls) s a)):=by
 cases hv:viewB L (insN ls) s a
 ·unfold viewL
  rw [hv,if_neg Bool.false_ne_true]
  exact sWireNo A c L Ai ci ls s a w hc hn hci hi hm hv
 obtain ⟨hu,hib,h1,h2⟩:=viewB_iff.1 hv
 obtain ⟨B,hB⟩:∃ x,inBits (insN ls)=x:=⟨_,rfl⟩
 have hl80:=inBits_len hib
 unfold viewL
 rw [hv,if_pos rfl]
 rw [hB] at hl80 ⊢
 have HU:=hid (fun w hc=>(show Calls Tryz.prog 41 #[.slice A L.length c] w (fun e w'=>∃ g k,e=.returned (.tuple #[.slice (some ⟨g,0,none⟩) (unrL L).length k,.bool (unrB L)])∧Below w.heap.size w w') from Calls.mono (sUnroll A c L w hc hn) (fun e w' ⟨g,k,h1,_,_,h4⟩=>⟨g,k,h1,h4⟩)))
 have HIO:=hid (fun w' (h:Below w.heap.size w w')=>sInsOk Ai ci ls w' ((hci.below h).more h.size) ((hi.below h (Nat.le_refl _)).more h.size) (by omega) (fun q hq=>by have:=totL_mem hq; omega))
 have HIB:=hid (fun w' (h:Below w.heap.size w w')=>sInBits Ai ci ls w' ((hci.below h).more h.size) ((hi.below h (Nat.le_refl _)).more h.size) hib)
 have HIL:=hid (fun A c w hc=>by
  have q:=sInputLabels s a A c B w h1 (by omega) (by rw [←hB]; exact inBits_bits _) (by omega) hc
  rwa [hl80] at q)
 have HTK:=hid (fun w=>s_l38 s a w)
 rw [show (tapeOkB s a && decide (a≤800000))=true by rw [h1,decide_eq_true h2]; rfl] at HTK
 have HEV:=hid (fun Q cl w hc hl=>sL38Eval A c L Q cl B s a w hc hn hl h1 h2 hu)
 rw [hu] at HU
 rw [hib] at HIO
 rw [hB] at HIB
 obtain ⟨un,hun⟩:∃ x,(unrL L).length=x:=⟨_,rfl⟩
 rw [hun] at HU
 obtain ⟨LS,hLS⟩:∃ x,labsTo s a B 80=x:=⟨_,rfl⟩
 rw [hLS] at HIL HEV ⊢
 obtain ⟨gs,hgs⟩:∃ x,cirG L=x:=⟨_,rfl⟩
 obtain ⟨os,hos⟩:∃ x,cirO L=x:=⟨_,rfl⟩
 rw [hgs,hos] at HEV
 rw [hgs]
 obtain ⟨ts,hts⟩:∃ x,garTs s a gs=x:=⟨_,rfl⟩
 obtain ⟨cs,hcs⟩:∃ x,garCs s a gs=x:=⟨_,rfl⟩
 obtain ⟨ds,hds⟩:∃ x,decL (garZs s a gs) os=x:=⟨_,rfl⟩
 obtain ⟨ws,hws⟩:∃ x,wireL s a gs LS=x:=⟨_,rfl⟩
 rw [hts,hcs,hds,hws] at HEV
 rw [hws]
 clear hun hci hi hm hn hu hib h1 h2 hv hl80 hB hLS hgs hos hts hcs hds hws
 go_enter Tryz.func23,Tryz.ntmps23
 have b_0:=(Below.refl w.heap.size w)
 have s_0:=b_0.size
 have xs_0:=hc
 clear hc
 go_upto_region 1 with fail
 refine wp_forget1 (w0:=w) (B:=w.heap.size) (b0:=w.heap.size) (t0:=27) (c0:=#[.int .i64 s,.int .i64 a]) ?_ ?_ ?_
 (focus exact blkcBy2)
 (focus (exact belBy))
 intro w1 t_1 hX1
 have sX1:=hX1.size
 have t_lt:=t_1.lt
 have b_1:=b_0.trans (hX1.mono (by omega))
 have xs_1:=cells_below xs_0 hX1 (by omega)
 clear xs_0 b_0 hX1
 have cell_t:=t_1.cell
 have froz_t:=t_1.frozen
 have lt_t:=t_1.lt
 go_wp2_with fail
 refine calls_forget0 (W:=w1) ?_ ?_
 (focus (exact belBy))
 intro X2 hX2
 have sX2:=hX2.size
 refine (HU.out _ ((cells_below xs_1 hX2 (by omega)).more (by omega))).mono ?_
 rintro e w2 ⟨gU,kU,rfl,hb2⟩
 have s2:=hb2.size
 have hT2:=hX2.trans (hb2.mono sX2)
 have b_2:=b_1.trans (hT2.mono (by omega))
 have xs_2:=cells_below xs_1 hT2 (by omega)
 have t_2:=Blk.past hT2 t_1
 clear xs_1 t_1 b_1 cell_t froz_t lt_t hX2 hT2 hb2
 have cell_t:=t_2.cell
 have froz_t:=t_2.frozen
 have lt_t:=t_2.lt
 go_wp2_with fail
 refine calls_forget0 (W:=w2) ?_ ?_
 (focus (exact belBy))
 intro X3 hX3
 have sX3:=hX3.size
 refine (HIO.out _ (b_2.trans (hX3.mono (by omega)))).mono ?_
 rintro e w' ⟨rfl,rfl⟩
 have b_3:=b_2.trans (hX3.mono (by omega))
 have xs_3:=cells_below xs_2 hX3 (by omega)
 have t_3:=Blk.past hX3 t_2
 clear xs_2 t_2 b_2 cell_t froz_t lt_t hX3
 have cell_t:=t_3.cell
 have froz_t:=t_3.frozen
 have lt_t:=t_3.lt
 go_wp2_with fail
 refine calls_forget0 (W:=X3) ?_ ?_
 (focus (exact belBy))
 intro X4 hX4
 have sX4:=hX4.size
 refine (HTK.out _).mono ?_
 rintro e w4 ⟨rfl,hb4⟩
 have s4:=hb4.size
 have hT4:=hX4.trans (hb4.mono sX4)
 have b_4:=b_3.trans (hT4.mono (by omega))
 have xs_4:=cells_below xs_3 hT4 (by omega)
 have t_4:=Blk.past hT4 t_3
 clear xs_3 t_3 b_3 cell_t froz_t lt_t hX4 hT4 hb4
 have cell_t:=t_4.cell
 have froz_t:=t_4.frozen
 have lt_t:=t_4.lt
 go_upto_region 4 with fail
 refine wp_forget0 (w0:=w4) (B:=w4.heap.size) ?_ ?_
 (focus (exact belBy))
 intro w5 hX5
 have sX5:=hX5.size
 have b_5:=b_4.trans (hX5.mono (by omega))
 have xs_5:=cells_below xs_4 hX5 (by omega)
 have t_5:=Blk.past hX5 t_4
 clear xs_4 t_4 b_4 cell_t froz_t lt_t hX5
 have cell_t:=t_5.cell
 have froz_t:=t_5.frozen
 have lt_t:=t_5.lt
 have HX:=hid (And.intro xs_5 (And.intro t_5 b_5))
 have z5:=b_5.size
 clear xs_5 t_5 b_5 cell_t froz_t lt_t
 have hC:∀ {w':World},Onward w5 w'→w5.heap.size≤w'.heap.size:=fun h=>h.below.size
 refine wp_growR (C:=Onward w5) (R:=Keeps w5) (spec:=specAt [(4,.any (RowOf w5.heap.size 3 1 80 (ints B))),(5,.any (RowOf w5.heap.size 3 1 LS.length (ints LS))),(6,.any (EvT w5.heap.size ws.length (ints ws))),(7,.any (EvT w5.heap.size ws.length (ints ws))),(8,.any Agg2),(9,.any Agg3),(10,.any (RowOf w5.heap.size 3 1 ws.length (ints ws))),(11,.any (BoxT w5.heap.size TS 2)),(12,.any (BoxT w5.heap.size TPb 3)),(13,.any (fun _ _=>True)),(14,.any (fun _ _=>True)),(15,.any (RowOf w5.heap.size 3 1 ws.length (ints ws)))]) (by kernel_rfl) (by kernel_rfl) (Onward.mk' ((Below.refl _ _).drew)) (fun _ _ h k=>k.step h) (specR_stab ?_) ?_
 ·intro p hp F hF
  simp only [List.mem_cons,List.not_mem_nil,or_false] at hp
  rcases hp with rfl | rfl | rfl | rfl | rfl | rfl | rfl | rfl | rfl | rfl | rfl | rfl
  all_goals injection hF with hF; subst hF
  all_goals first | exact fun v w w' h k=>Keeps.row h k (by decide) (by decide) | exact fun v w w' h k=>Keeps.ev h k | exact fun v w w' h k=>Keeps.box h k | exact fun _ _ _ h _=>h
 have q0:=fun (X:Later w5) (o:Nat)=>(HX.out.2.1.past X.below).cell o
 refine gList_quietK 4 ⟨rfl,rfl,rfl,rfl,rfl,rfl,rfl,rfl,trivial⟩ (by decide) ?_
 delta Onward
 dsimp only [List.take,List.drop]
 repeat (go_big_quiet_step (fail))
 refine wpQuiet_nil ?_
 clear q0
 refine gList_any (RowOf w5.heap.size 3 1 80 (ints B)) rfl rfl (fun w' hC hd=>?_) (fun v4=>?_)
 ·have hb:Below w5.heap.size w5 w':=by obtain ⟨⟨_,hb⟩,rfl⟩:=hC; exact hb
  exact growR_call (by simp [go_sem]) hb.size ((HIB.out w' (HX.out.2.2.trans (hb.mono z5))).mono (fun e w'' ⟨A',c',h1,h2,h3⟩=>⟨_,h1,h3,A',c',rfl,own_weak h2 hb.size⟩))
 simp only [Act.put,List.setIfInBounds_toArray,List.set_cons_succ,List.set_cons_zero]
 refine gList_any (RowOf w5.heap.size 3 1 LS.length (ints LS)) rfl rfl (fun w' hC hd=>?_) (fun v5=>?_)
 ·have hb:Below w5.heap.size w5 w':=by obtain ⟨⟨_,hb⟩,rfl⟩:=hC; exact hb
  have h4:RowOf w5.heap.size 3 1 80 (ints B) v4 w':=hd 4 (by kernel_rfl)
  obtain ⟨A4,c4,rfl,ho4⟩:=h4
  exact growR_call (by simp [go_sem]) hb.size ((HIL.out A4 c4 w' (Cells.of_own ho4)).mono (fun e w'' ⟨A',c',h1,h2,h3⟩=>⟨_,h1,h3,A',c',rfl,own_weak h2 hb.size⟩))
 simp only [Act.put,List.setIfInBounds_toArray,List.set_cons_succ,List.set_cons_zero]
 refine gList_any (EvT w5.heap.size ws.length (ints ws)) rfl rfl (fun w' hC hd=>?_) (fun v6=>?_)
 ·have hb:Below w5.heap.size w5 w':=by obtain ⟨⟨_,hb⟩,rfl⟩:=hC; exact hb
  have h5:RowOf w5.heap.size 3 1 LS.length (ints LS) v5 w':=hd 5 (by kernel_rfl)
  obtain ⟨A5,c5,rfl,ho5⟩:=h5
  exact growR_call (by simp [go_sem]) hb.size ((HEV.out A5 c5 w' ((cells_below HX.out.1 hb z5).more (Nat.le_trans z5 hb.size)) (Cells.of_own ho5)).mono (fun e w'' ⟨G,cg,O,co,T,ct,K,ck,D,cd,V,cv,h1,_,_,_,_,_,hV,h3⟩=>⟨_,h1,h3,_,_,_,_,_,_,rfl,by simp [Value.oneCell'],V,cv,rfl,own_weak hV hb.size⟩))
 simp only [Act.put,List.setIfInBounds_toArray,List.set_cons_succ,List.set_cons_zero]
 refine gList_any (EvT w5.heap.size ws.length (ints ws)) rfl rfl (fun w' hC hd=>?_) (fun v7=>?_)
 ·have h6:EvT w5.heap.size ws.length (ints ws) v6 w':=hd 6 (by kernel_rfl)
  exact growR_value (v:=v6) (by simp [go_sem]) h6
 simp only [Act.put,List.setIfInBounds_toArray,List.set_cons_succ,List.set_cons_zero]
 refine gList_any (Agg2) rfl rfl (fun w' hC hd=>?_) (fun v8=>?_)
 ·have h7:EvT w5.heap.size ws.length (ints ws) v7 w':=hd 7 (by kernel_rfl)
  obtain ⟨x0,x1,y0,y1,y2,u,rfl,ho,hr⟩:=h7
  exact growR_value (v:=.agg #[x0,x1]) (by simp [go_sem]) ⟨x0,x1,rfl,fun z hz=>ho z (by simp at hz ⊢; rcases hz with h | h <;> simp [h])⟩
 simp only [Act.put,List.setIfInBounds_toArray,List.set_cons_succ,List.set_cons_zero]
 refine gList_any (Agg3) rfl rfl (fun w' hC hd=>?_) (fun v9=>?_)
 ·have h7:EvT w5.heap.size ws.length (ints ws) v7 w':=hd 7 (by kernel_rfl)
  obtain ⟨x0,x1,y0,y1,y2,u,rfl,ho,hr⟩:=h7
  exact growR_value (v:=.agg #[y0,y1,y2]) (by simp [go_sem]) ⟨y0,y1,y2,rfl,fun z hz=>ho z (by simp at hz ⊢; rcases hz with h | h | h <;> simp [h])⟩
 simp only [Act.put,List.setIfInBounds_toArray,List.set_cons_succ,List.set_cons_zero]
 refine gList_any (RowOf w5.heap.size 3 1 ws.length (ints ws)) rfl rfl (fun w' hC hd=>?_) (fun v10=>?_)
 ·have h7:EvT w5.heap.size ws.length (ints ws) v7 w':=hd 7 (by kernel_rfl)
  obtain ⟨x0,x1,y0,y1,y2,u,rfl,ho,hr⟩:=h7
  exact growR_value (v:=u) (by simp [go_sem]) hr
 simp only [Act.put,List.setIfInBounds_toArray,List.set_cons_succ,List.set_cons_zero]
 refine gList_any (BoxT w5.heap.size TS 2) rfl rfl (fun w' hC hd=>?_) (fun v11=>?_)
 ·have hb:Below w5.heap.size w5 w':=by obtain ⟨⟨_,hb⟩,rfl⟩:=hC; exact hb
  exact growR_alloc (cs:=#[.slice none 0 0,.slice none 0 0]) (by simp [go_sem]) rfl hb.size
 simp only [Act.put,List.setIfInBounds_toArray,List.set_cons_succ,List.set_cons_zero]
 refine gList_any (BoxT w5.heap.size TPb 3) rfl rfl (fun w' hC hd=>?_) (fun v12=>?_)
 ·have hb:Below w5.heap.size w5 w':=by obtain ⟨⟨_,hb⟩,rfl⟩:=hC; exact hb
  exact growR_alloc (cs:=#[.slice none 0 0,.slice none 0 0,.slice none 0 0]) (by simp [go_sem]) rfl hb.size
 simp only [Act.put,List.setIfInBounds_toArray,List.set_cons_succ,List.set_cons_zero]
 refine gList_any (fun _ _=>True) rfl rfl (fun w' hC hd=>?_) (fun v13=>?_)
 ·have h11:BoxT w5.heap.size TS 2 v11 w':=hd 11 (by kernel_rfl)
  have h8:Agg2 v8 w':=hd 8 (by kernel_rfl)
  obtain ⟨b,cs',rfl,hb,hh,hn⟩:=h11
  obtain ⟨x0,x1,rfl,ho⟩:=h8
  obtain ⟨c0,c1,rfl⟩:=size2 hn
  have hk:Blk w' b TS #[c0,c1]:=hh
  have cell_b:=hk.cell
  have froz_b:=hk.frozen
  have lt_b:=hk.lt
  refine growR_skip (w':=(w'.setCell ⟨b,0,none⟩ x0).setCell ⟨b,1,none⟩ x1) ?_ ((Keeps.set_ hk hb (.inl rfl)).trans (Keeps.set_ (hk.set_ 0 _) hb (.inl rfl)))
  go_simp
  rw [run_storeB hk rfl (ho x0 (by simp))]
  simp only [Result.andThen_ok]
  rw [run_storeB (hk.set_ 0 x0) rfl (ho x1 (by simp))]
  rfl
 simp only [Act.put]
 refine gList_any (fun _ _=>True) rfl rfl (fun w' hC hd=>?_) (fun v14=>?_)
 ·have h11:BoxT w5.heap.size TPb 3 v12 w':=hd 12 (by kernel_rfl)
  have h8:Agg3 v9 w':=hd 9 (by kernel_rfl)
  obtain ⟨b,cs',rfl,hb,hh,hn⟩:=h11
  obtain ⟨x0,x1,x2,rfl,ho⟩:=h8
  obtain ⟨c0,c1,c2,rfl⟩:=size3 hn
  have hk:Blk w' b TPb #[c0,c1,c2]:=hh
  have cell_b:=hk.cell
  have froz_b:=hk.frozen
  have lt_b:=hk.lt
  refine growR_skip (w':=((w'.setCell ⟨b,0,none⟩ x0).setCell ⟨b,1,none⟩ x1).setCell ⟨b,2,none⟩ x2) ?_ (((Keeps.set_ hk hb (.inr rfl)).trans (Keeps.set_ (hk.set_ 0 _) hb (.inr rfl))).trans (Keeps.set_ ((hk.set_ 0 _).set_ 1 _) hb (.inr rfl)))
  go_simp
  rw [run_storeB hk rfl (ho x0 (by simp))]
  simp only [Result.andThen_ok]
  rw [run_storeB (hk.set_ 0 x0) rfl (ho x1 (by simp))]
  simp only [Result.andThen_ok]
  rw [run_storeB ((hk.set_ 0 x0).set_ 1 x1) rfl (ho x2 (by simp))]
  rfl
 simp only [Act.put]
 refine gList_any (RowOf w5.heap.size 3 1 ws.length (ints ws)) rfl rfl (fun w' hC hd=>?_) (fun v15=>?_)
 ·have h10:RowOf w5.heap.size 3 1 ws.length (ints ws) v10 w':=hd 10 (by kernel_rfl)
  exact growR_value (v:=v10) (by simp [go_sem]) h10
 simp only [Act.put,List.setIfInBounds_toArray,List.set_cons_succ,List.set_cons_zero]
 unfold gList
 intro w' hW hfs
 have hlast:RowOf w5.heap.size 3 1 ws.length (ints ws) v15 w':=hfs 15
 obtain ⟨⟨w6,hb⟩,rfl⟩:=hW
 obtain ⟨A15,c15,rfl,ho⟩:=hlast
 have HF:=hid (And.intro (own_weak (base':=w.heap.size) ho z5) (HX.out.2.2.trans (hb.mono z5)))
 clear hfs hb ho
 go_wp2
 ((try simp only [Exit.inBlock,Exit.then]); apply bodyPost_ret0; focus ((try simp only [results,Tryz.results23]); (try go_simp); (try rfl)))
 exact ⟨A15,c15,rfl,HF.out.1,HF.out.2⟩
open Go.RowKit Go.ChangeShapes Go.WideShapes Go.Deep
theorem list_of (n:Nat) (R:Nat→Int→Prop) (h:∀ q,q < n→∃ x,R q x):∃ xs:List Int,xs.length=n∧∀ q x,xs[q]? = some x→R q x:=by
 induction n with
 | zero=>exact ⟨[],rfl,fun q x hq=>by simp at hq⟩
 | succ n ih =>
  obtain ⟨xs,hl,hx⟩:=ih fun q hq=>h q (by omega)
  obtain ⟨y,hy⟩:=h n (by omega)
  refine ⟨xs ++ [y],by simp [hl],fun q x hq=>?_⟩
  rw [List.getElem?_append] at hq
  split at hq
  ·exact hx q x hq
  ·have h1:=(List.getElem?_eq_some_iff.1 hq).1
   simp at h1
   have h2:q=n:=by omega
   subst h2
   rw [hl] at hq
   simp at hq
   exact hq ▸ hy
def isI64 (P:Program) (t:TypeId):Bool:=match P.underlying t with
 | some (.int .i64)=>true
 | _=>false
theorem isI64_under {P:Program} {t:TypeId} (h:isI64 P t=true):P.underlying t=some (.int .i64):=by
 unfold isI64 at h
 split at h
 ·assumption
 ·cases h
def allI64 (P:Program) (fs:Array Field):Bool:=fs.toList.all fun f=>isI64 P f.type
theorem allI64_at {P:Program} {fs:Array Field} (h:allI64 P fs=true) {j:Nat} {f:Field} (hf:fs[j]? = some f):P.underlying f.type=some (.int .i64):=by
 unfold allI64 at h
 rw [List.all_eq_true] at h
 refine isI64_under (h f ?_)
 have h1:=Array.mem_of_getElem? hf
 simpa using h1
section
variable {H:Type} {enc:TypeId × Value→H} {P:Program} {W:World}
theorem view_structsF {t e:TypeId} {v:Value} {fs:Array Field} {fuel F:Nat} {y:DataW H × List MemPlace} (ht:P.underlying t=some (.slice e)) (he:P.underlying e=some (.struct fs))
  (hone:oneCellFields P fs=true) (hint:allI64 P fs=true) (hF:fs.size=F) (hC:P.cellsOf e=F) (hF0:0 < F)
  (hf:DataW.trod enc P W 0 (fun _=>true) true fuel t [v]=some y) (hlt:∀ x∈y.2,x.block < W.heap.size) :
  ∃ A c n xs,v=.slice A n c∧xs.length=n * F∧Cells W W.heap.size A (ints xs)∧n≤maxLen:=by
 rcases open_slice ht hf with ⟨hcs,hx⟩ | ⟨a,len,cap,m,n,D,Pl,hcs,_,hl,hm,hmm,hx,hi⟩
 ·simp at hcs
  subst hcs
  exact ⟨none,0,0,[],rfl,by simp,Cells.nil_,by simp⟩
 ·simp at hcs
  subst hcs
  simp only [if_true] at hmm
  subst hmm
  have hcell:∀ q,q < len * F→∃ x,W.cell? (a.add q)=some (.int .i64 x):=by
   intro q hq
   have hqi:q / F < len:=by
    rw [Nat.div_lt_iff_lt_mul hF0]; exact hq
   obtain ⟨cs',hc,ht'⟩:=hi (q / F) (by omega)
   rw [hC] at hc
   obtain ⟨ys,n',hn',hy,hlen,hyl,hff⟩:=DataW.trod_struct he ht'
   obtain ⟨_,hcl,hat⟩:=World.cells?_some hc
   have hj:q % F < F:=Nat.mod_lt _ hF0
   obtain ⟨f,hfj⟩:∃ f,fs[q % F]? = some f:=⟨_,Array.getElem?_eq_getElem (by omega)⟩
   obtain ⟨ho,hk⟩:=hone_of hone (q % F) f hfj
   have h1:=hff (q % F) f hfj
   rw [ho,hk] at h1
   have hv:cs'[q % F]? = some (cs'[q % F]'(by omega)):=List.getElem?_eq_getElem (by omega)
   have hone':(cs'.drop (q % F)).take 1=[cs'[q % F]'(by omega)]:=by
    rw [List.drop_eq_getElem_cons (by omega)]
    rfl
   rw [hone',List.getElem?_eq_getElem (by omega)] at h1
   obtain ⟨x,ex,_,_⟩:=DataW.trod_int (allI64_at hint hfj) h1
   have ex':cs'[q % F]'(by omega)=.int .i64 x:=by simpa using ex
   refine ⟨x,?_⟩
   have h2:=hat (q % F) hj
   rw [hv,ex',Deep.add_add] at h2
   rw [←h2,show q / F * F + q % F=q from Nat.div_add_mod' q F]
  obtain ⟨xs,hxl,hxs⟩:=list_of (len * F) (fun q x=>W.cell? (a.add q)=some (.int .i64 x)) hcell
  refine ⟨some a,m,len,xs,rfl,hxl,fun h0=>?_,by omega⟩
  rw [ints_length,hxl] at h0
  obtain ⟨b,off,spot⟩:=a
  have hspot:spot=none:=by
   obtain ⟨x,hx0⟩:=hcell 0 h0
   simpa [Addr.add] using World.cell?_spot hx0
  subst hspot
  have hlen0:0 < len:=by
   rcases Nat.eq_zero_or_pos len with h | h
   ·subst h; simp at h0
   ·exact h
  have hle:len≤m * F:=Nat.le_trans hl (Nat.le_mul_of_pos_right _ hF0)
  refine ⟨b,off,rfl,hlt (.cell b off) (by rw [hx,hC]; exact List.mem_append_left _ (MemPlace.mem_row.2 ⟨0,by omega,by simp⟩)),fun i v hv=>?_⟩
  simp only [ints,List.getElem?_map,Option.map_eq_some_iff] at hv
  obtain ⟨x,hx1,rfl⟩:=hv
  have h3:=hxs i x hx1
  rw [add_plain] at h3
  exact h3
theorem view_structs {r:Reach} {b0:Nat} {t e:TypeId} {v:Value} {d:DataW H} {ps:List MemPlace} {fs:Array Field} {F:Nat} (ht:P.underlying t=some (.slice e)) (he:P.underlying e=some (.struct fs))
  (hone:oneCellFields P fs=true) (hint:allI64 P fs=true) (hF:fs.size=F) (hC:P.cellsOf e=F) (hF0:0 < F) (hv:Value.okWide P W r b0 t v)
  (h:DataW.Trod enc P W 0 (fun _=>true) true t v d ps) (hlt:∀ x∈ps,x.block < W.heap.size) :
  ∃ A c n xs,v=.slice A n c∧xs.length=n * F∧Cells W W.heap.size A (ints xs)∧n≤maxLen:=by
 obtain ⟨a0,len,cap,rfl⟩:=okWide_slice ht hv
 obtain ⟨fuel,hf⟩:=h
 exact view_structsF ht he hone hint hF hC hF0 (by simpa [Value.cells] using hf) hlt
end
open Go.RowKit Go.ChangeShapes Go.WideShapes Go.Deep
theorem flat_of:∀ (n:Nat) (xs:List Int),xs.length=n * 6→∃ L:List St,L.length=n∧flatS L=xs
 | 0,xs,h=>⟨[],rfl,by rw [List.length_eq_zero_iff.1 (by omega:xs.length=0)]; rfl⟩
 | n + 1,xs,h=>by
  match xs,h with
  | a :: b :: c :: d :: e :: f :: r,h =>
   obtain ⟨L,h1,h2⟩:=flat_of n r (by simp only [List.length_cons] at h; omega)
   exact ⟨⟨a,b,c,d,e,f⟩ :: L,by simp [h1],by rw [←h2]; rfl⟩
  | [],h=>simp only [List.length_nil] at h; omega
  | [_],h=>simp only [List.length_cons,List.length_nil] at h; omega
  | [_,_],h=>simp only [List.length_cons,List.length_nil] at h; omega
  | [_,_,_],h=>simp only [List.length_cons,List.length_nil] at h; omega
  | [_,_,_,_],h=>simp only [List.length_cons,List.length_nil] at h; omega
  | [_,_,_,_,_],h=>simp only [List.length_cons,List.length_nil] at h; omega
theorem toTape_any (k n:Int) (w:World) :
  Calls Tryz.prog 26 #[.agg #[.int .i64 k,.int .i64 n]] w fun e w'=>e=.returned (.agg #[.int .i64 k,.int .i64 n])∧Below w.heap.size w w':=by
 go_enter Tryz.func26,Tryz.ntmps26
 go_wp2
 go_returns
 refine ⟨rfl,?_⟩
 exact belBy
theorem list_ofG {α:Type} (n:Nat) (R:Nat→α→Prop) (h:∀ q,q < n→∃ x,R q x):∃ xs:List α,xs.length=n∧∀ (q:Nat) (x:α),xs[q]? = some x→R q x:=by
 induction n with
 | zero=>exact ⟨[],rfl,fun q x hq=>by simp at hq⟩
 | succ n ih =>
  obtain ⟨xs,hl,hx⟩:=ih fun q hq=>h q (by omega)
  obtain ⟨y,hy⟩:=h n (by omega)
  refine ⟨xs ++ [y],by simp [hl],fun q x hq=>?_⟩
  rw [List.getElem?_append] at hq
  split at hq
  ·exact hx q x hq
  ·have h1:=(List.getElem?_eq_some_iff.1 hq).1
   simp at h1
   have h2:q=n:=by omega
   subst h2
   rw [hl] at hq
   simp at hq
   exact hq ▸ hy
section
variable {H:Type} {enc:TypeId × Value→H} {P:Program} {W:World}
theorem view_intssF {t e f:TypeId} {v:Value} {fuel:Nat} {y:DataW H × List MemPlace} (ht:P.underlying t=some (.slice e)) (he:P.underlying e=some (.slice f)) (hf:P.underlying f=some (.int .i64)) (hC:P.cellsOf e=1) (hD:P.cellsOf f=1)
  (hr:DataW.trod enc P W 0 (fun _=>true) true fuel t [v]=some y) (hlt:∀ x∈y.2,x.block < W.heap.size) :
  ∃ (A:Option Addr) (c:Nat) (ls:List In1),v=.slice A ls.length c∧Cells W W.heap.size A (insW ls)∧InsW W W.heap.size ls∧ls.length≤maxLen∧∀ q∈ls,q.2.2.length≤maxLen:=by
 rcases open_slice ht hr with ⟨hcs,hx⟩ | ⟨a,len,cap,m,n,D,Pl,hcs,_,hl,hm,hmm,hx,hi⟩
 ·simp at hcs
  subst hcs
  exact ⟨none,0,[],rfl,Cells.nil_,fun i q hq=>by simp at hq,by simp,fun q hq=>by cases hq⟩
 ·simp at hcs
  subst hcs
  simp only [if_true] at hmm
  subst hmm
  have hcell:∀ q,q < len→∃ x:In1,W.cell? (a.add q)=some (.slice x.1 x.2.2.length x.2.1)∧Cells W W.heap.size x.1 (ints x.2.2)∧x.2.2.length≤maxLen:=by
   intro q hq
   obtain ⟨cs',hc,ht'⟩:=hi q (by omega)
   rw [hC,Nat.mul_one] at hc
   obtain ⟨_,hcl,hat⟩:=World.cells?_some hc
   obtain ⟨u,hu⟩:∃ u,cs'=[u]:=by
    match cs',hcl with
    | [u],_=>exact ⟨u,rfl⟩
   subst hu
   have h0:=hat 0 (by omega)
   obtain ⟨A,c,xs,rfl,hcx,_,hn⟩:=view_intsF he hf hD ht' (fun x hx'=>hlt x (by rw [hx]; exact List.mem_append_right _ (List.mem_flatMap.2 ⟨q,List.mem_range.2 (by omega),hx'⟩)))
   exact ⟨(A,c,xs),by rw [show a.add q=(a.add q).add 0 by simp [Addr.add]]; exact h0,hcx,hn⟩
  obtain ⟨ls,hll,hls⟩:=list_ofG len (fun q (x:In1)=>W.cell? (a.add q)=some (.slice x.1 x.2.2.length x.2.1)∧Cells W W.heap.size x.1 (ints x.2.2)∧x.2.2.length≤maxLen) hcell
  refine ⟨some a,m,ls,by rw [hll],fun h0=>?_,fun i q hq=>(hls i q hq).2.1,by omega,fun q hq=>?_⟩
  ·rw [insW_length,hll] at h0
   obtain ⟨b,off,spot⟩:=a
   have hspot:spot=none:=by
    obtain ⟨x,hx0,_⟩:=hcell 0 h0
    simpa [Addr.add] using World.cell?_spot hx0
   subst hspot
   refine ⟨b,off,rfl,hlt (.cell b off) (by rw [hx,hC]; exact List.mem_append_left _ (MemPlace.mem_row.2 ⟨0,by omega,by simp⟩)),fun i v hv=>?_⟩
   simp only [insW,List.getElem?_map,Option.map_eq_some_iff] at hv
   obtain ⟨x,hx1,rfl⟩:=hv
   have h3:=(hls i x hx1).1
   rw [add_plain] at h3
   exact h3
  ·obtain ⟨i,hi'⟩:=List.getElem?_of_mem hq
   exact (hls i q hi').2.2
theorem view_intss {r:Reach} {b0:Nat} {t e f:TypeId} {v:Value} {d:DataW H} {ps:List MemPlace} (ht:P.underlying t=some (.slice e)) (he:P.underlying e=some (.slice f)) (hf:P.underlying f=some (.int .i64)) (hC:P.cellsOf e=1) (hD:P.cellsOf f=1)
  (hv:Value.okWide P W r b0 t v) (h:DataW.Trod enc P W 0 (fun _=>true) true t v d ps) (hlt:∀ x∈ps,x.block < W.heap.size) :
  ∃ (A:Option Addr) (c:Nat) (ls:List In1),v=.slice A ls.length c∧Cells W W.heap.size A (insW ls)∧InsW W W.heap.size ls∧ls.length≤maxLen∧∀ q∈ls,q.2.2.length≤maxLen:=by
 obtain ⟨a0,len,cap,rfl⟩:=okWide_slice ht hv
 obtain ⟨fuel,hf'⟩:=h
 exact view_intssF ht he hf hC hD (by simpa [Value.cells] using hf') hlt
end
open Go.RowKit
theorem made_all (z:Array Value) (v:Value) (m:Nat) (h:∀ q,z[q % z.size]! = v):(madeCells z m).toList=List.replicate m v:=by
 rw [List.eq_replicate_iff]
 refine ⟨by simp [madeCells],fun x hx=>?_⟩
 simp [madeCells] at hx
 obtain ⟨q,_,rfl⟩:=hx
 simpa using h q
open Go.RowKit
theorem made6 (n:Nat):(madeCells #[Value.int IntKind.i64 0,Value.int IntKind.i64 0,Value.int IntKind.i64 0,Value.int IntKind.i64 0,Value.int IntKind.i64 0,Value.int IntKind.i64 0] (n * 6)).toList=List.replicate (n * 6) (.int .i64 0):=by
 refine made_all _ _ _ fun q=>?_
 have h:q % 6=0∨q % 6=1∨q % 6=2∨q % 6=3∨q % 6=4∨q % 6=5:=by omega
 show #[Value.int IntKind.i64 0,Value.int IntKind.i64 0,Value.int IntKind.i64 0,Value.int IntKind.i64 0,Value.int IntKind.i64 0,Value.int IntKind.i64 0][q % 6]! = _
 rcases h with h | h | h | h | h | h <;> rw [h] <;> rfl
theorem infoStmt:(Tryz.prog.info? 73).map (fun i=>(i.zero,i.size,i.bytes))=some (some (.agg #[.int .i64 0,.int .i64 0,.int .i64 0,.int .i64 0,.int .i64 0,.int .i64 0]),6,48):=by kernel_rfl
theorem toStmt_any (x0 x1 x2 x3 x4 x5:Int) (w:World) :
  Calls Tryz.prog 70 #[.agg #[.int .i64 x0,.int .i64 x1,.int .i64 x2,.int .i64 x3,.int .i64 x4,.int .i64 x5]] w fun e w'=>e=.returned (.agg #[.int .i64 x0,.int .i64 x1,.int .i64 x2,.int .i64 x3,.int .i64 x4,.int .i64 x5])∧Below w.heap.size w w':=by
 go_enter Tryz.func70,Tryz.ntmps70
 go_wp2
 go_returns
 refine ⟨rfl,?_⟩
 exact belBy
theorem eqStmt_same (x0 x1 x2 x3 x4 x5:Int) (w:World) :
  Calls Tryz.prog 72 #[.agg #[.int .i64 x0,.int .i64 x1,.int .i64 x2,.int .i64 x3,.int .i64 x4,.int .i64 x5],.agg #[.int .i64 x0,.int .i64 x1,.int .i64 x2,.int .i64 x3,.int .i64 x4,.int .i64 x5]] w fun e w'=>e=.returned (.bool true)∧Below w.heap.size w w':=by
 go_enter Tryz.func72,Tryz.ntmps72
 go_wp2
 go_ret
 refine ⟨rfl,?_⟩
 exact belBy
set_option maxRecDepth 100000 in
set_option maxHeartbeats 1600000 in
theorem toStmtS_any (A:Option Addr) (c n:Nat) (xs:List Int) (w:World) (hl:xs.length=n * 6) (hc:Cells w w.heap.size A (ints xs)) (hn:n≤1048576) :
  Calls Tryz.prog 24 #[.slice A n c] w fun e w'=>e=.returned (.slice (some ⟨w.heap.size,0,none⟩) n n) ∧
   w'.ownsRow w.heap.size 73 6 (.slice (some ⟨w.heap.size,0,none⟩) n n) n (ints xs)∧Below w.heap.size w w':=by
 obtain ⟨i0,hi,hz0,hz1,hz2⟩:=info_parts infoStmt
 go_enter Tryz.func24,Tryz.ntmps24
 go_wp2_with (at_make; refine wpList_make_full _ rfl _ _ 24 rfl w.heap.size 73 i0 (.agg #[.int .i64 0,.int .i64 0,.int .i64 0,.int .i64 0,.int .i64 0,.int .i64 0]) 6 Tryz.underlying24 hi hz0 hz1 _ _ _ _ n rfl rfl rfl rfl (by rw [hz2]; omega) (by unfold maxLen; omega) (Nat.le_refl _) ?_)
 intro w1 hown1 hg1
 have hb1:Below w.heap.size w w1:=(Below.refl _ _).grown hg1 (Nat.le_refl _) (fun k hk=>by cases hk)
 have hsz1:=hb1.size
 have hL:(madeCells #[Value.int IntKind.i64 0,Value.int IntKind.i64 0,Value.int IntKind.i64 0,Value.int IntKind.i64 0,Value.int IntKind.i64 0,Value.int IntKind.i64 0] (n * 6)).toList=copyTo xs 0:=by
  rw [copyTo_zero,hl]
  exact made6 n
 have hown2:w1.ownsRow w.heap.size 73 6 (.slice (some ⟨w.heap.size,0,none⟩) n n) n (copyTo xs 0):=by rw [←hL]; exact hown1
 have HL:=hid hl
 clear hL hg1 hi hz0 hz1 hz2 hown1 hl
 go_wp2_with fail
 go_loopw [4] (fun i wr=>∃ k:Nat,k≤n∧i=.int .i64 k∧wr.ownsRow w.heap.size 73 6 (.slice (some ⟨w.heap.size,0,none⟩) n n) n (copyTo xs (k * 6))∧Below w.heap.size w wr) (fun i _=>n - (intOf i).toNat)
 case atStart=>exact ⟨0,Nat.zero_le _,rfl,hown2,hb1⟩
 case round =>
  obtain ⟨k,hk,rfl,hown,hb⟩:=hrel
  by_cases hlt:k < n
  ·have hl:=HL.out
   obtain ⟨x0,hx0⟩:∃ x,xs[k * 6]? = some x:=⟨_,List.getElem?_eq_getElem (by omega)⟩
   obtain ⟨x1,hx1⟩:∃ x,xs[k * 6 + 1]? = some x:=⟨_,List.getElem?_eq_getElem (by omega)⟩
   obtain ⟨x2,hx2⟩:∃ x,xs[k * 6 + 2]? = some x:=⟨_,List.getElem?_eq_getElem (by omega)⟩
   obtain ⟨x3,hx3⟩:∃ x,xs[k * 6 + 3]? = some x:=⟨_,List.getElem?_eq_getElem (by omega)⟩
   obtain ⟨x4,hx4⟩:∃ x,xs[k * 6 + 4]? = some x:=⟨_,List.getElem?_eq_getElem (by omega)⟩
   obtain ⟨x5,hx5⟩:∃ x,xs[k * 6 + 5]? = some x:=⟨_,List.getElem?_eq_getElem (by omega)⟩
   obtain ⟨b,off,rfl,hB,hcl⟩:=hc (by rw [ints_length]; omega)
   have hc0:wr.cell? ⟨b,off + k * 6,none⟩=some (.int .i64 x0):=(hb.cell (p:=⟨b,off + k * 6,none⟩) hB).trans (hcl (k * 6) _ (ints_get hx0))
   have hc1:wr.cell? ⟨b,off + k * 6 + 1,none⟩=some (.int .i64 x1):=(hb.cell (p:=⟨b,off + k * 6 + 1,none⟩) hB).trans (hcl (k * 6 + 1) _ (ints_get hx1))
   have hc2:wr.cell? ⟨b,off + k * 6 + 2,none⟩=some (.int .i64 x2):=(hb.cell (p:=⟨b,off + k * 6 + 2,none⟩) hB).trans (hcl (k * 6 + 2) _ (ints_get hx2))
   have hc3:wr.cell? ⟨b,off + k * 6 + 3,none⟩=some (.int .i64 x3):=(hb.cell (p:=⟨b,off + k * 6 + 3,none⟩) hB).trans (hcl (k * 6 + 3) _ (ints_get hx3))
   have hc4:wr.cell? ⟨b,off + k * 6 + 4,none⟩=some (.int .i64 x4):=(hb.cell (p:=⟨b,off + k * 6 + 4,none⟩) hB).trans (hcl (k * 6 + 4) _ (ints_get hx4))
   have hc5:wr.cell? ⟨b,off + k * 6 + 5,none⟩=some (.int .i64 x5):=(hb.cell (p:=⟨b,off + k * 6 + 5,none⟩) hB).trans (hcl (k * 6 + 5) _ (ints_get hx5))
   have HO:=hid hown
   have HB:=hid hb
   have zr:=hb.size
   have HX0:=hid hx0
   have HX1:=hid hx1
   have HX2:=hid hx2
   have HX3:=hid hx3
   have HX4:=hid hx4
   have HX5:=hid hx5
   clear hcl hl hown hown2 hb1 hc hb hx0 hx1 hx2 hx3 hx4 hx5
   go_wp2_with fail
   refine calls_forget0 (W:=wr) ?_ ?_
   (focus (exact belBy))
   intro X hX
   refine (toStmt_any _ _ _ _ _ _ _).mono ?_
   rintro e w2 ⟨rfl,hb2⟩
   have hbX:=hX.trans (hb2.mono hX.size)
   have z2:=hbX.size
   have ho2:=own_below HO.out hbX
   have hB2:=HB.out.trans (hbX.mono zr)
   have hu0:∃ u,w2.cell? ⟨w.heap.size,k * 6,none⟩=some u:=by
    rw [ho2.cellAt (k * 6) (by omega)]
    have h1:=ho2.1
    exact ⟨_,List.getElem?_eq_getElem (by omega)⟩
   obtain ⟨u0,hu0⟩:=hu0
   have hf0:=ho2.frozenAt (k * 6)
   have hu1:∃ u,w2.cell? ⟨w.heap.size,k * 6 + 1,none⟩=some u:=by
    rw [ho2.cellAt (k * 6 + 1) (by omega)]
    have h1:=ho2.1
    exact ⟨_,List.getElem?_eq_getElem (by omega)⟩
   obtain ⟨u1,hu1⟩:=hu1
   have hf1:=ho2.frozenAt (k * 6 + 1)
   have hu2:∃ u,w2.cell? ⟨w.heap.size,k * 6 + 2,none⟩=some u:=by
    rw [ho2.cellAt (k * 6 + 2) (by omega)]
    have h1:=ho2.1
    exact ⟨_,List.getElem?_eq_getElem (by omega)⟩
   obtain ⟨u2,hu2⟩:=hu2
   have hf2:=ho2.frozenAt (k * 6 + 2)
   have hu3:∃ u,w2.cell? ⟨w.heap.size,k * 6 + 3,none⟩=some u:=by
    rw [ho2.cellAt (k * 6 + 3) (by omega)]
    have h1:=ho2.1
    exact ⟨_,List.getElem?_eq_getElem (by omega)⟩
   obtain ⟨u3,hu3⟩:=hu3
   have hf3:=ho2.frozenAt (k * 6 + 3)
   have hu4:∃ u,w2.cell? ⟨w.heap.size,k * 6 + 4,none⟩=some u:=by
    rw [ho2.cellAt (k * 6 + 4) (by omega)]
    have h1:=ho2.1
    exact ⟨_,List.getElem?_eq_getElem (by omega)⟩
   obtain ⟨u4,hu4⟩:=hu4
   have hf4:=ho2.frozenAt (k * 6 + 4)
   have hu5:∃ u,w2.cell? ⟨w.heap.size,k * 6 + 5,none⟩=some u:=by
    rw [ho2.cellAt (k * 6 + 5) (by omega)]
    have h1:=ho2.1
    exact ⟨_,List.getElem?_eq_getElem (by omega)⟩
   obtain ⟨u5,hu5⟩:=hu5
   have hf5:=ho2.frozenAt (k * 6 + 5)
   have hst0:=ho2.stored (k * 6) (.int .i64 x0)
   rw [copyTo_set HX0.out] at hst0
   have hst1:=hst0.1.stored (k * 6 + 1) (.int .i64 x1)
   rw [copyTo_set HX1.out] at hst1
   have hst2:=hst1.1.stored (k * 6 + 2) (.int .i64 x2)
   rw [copyTo_set HX2.out] at hst2
   have hst3:=hst2.1.stored (k * 6 + 3) (.int .i64 x3)
   rw [copyTo_set HX3.out] at hst3
   have hst4:=hst3.1.stored (k * 6 + 4) (.int .i64 x4)
   rw [copyTo_set HX4.out] at hst4
   have hst5:=hst4.1.stored (k * 6 + 5) (.int .i64 x5)
   rw [copyTo_set HX5.out] at hst5
   have hq:=hst5.1
   rw [show k * 6 + 5 + 1=(k + 1) * 6 by omega] at hq
   have hb3:=((((((hB2.setCell (p:=⟨w.heap.size,k * 6,none⟩) (Nat.le_refl _) (.int .i64 x0)).setCell (p:=⟨w.heap.size,k * 6 + 1,none⟩) (Nat.le_refl _) (.int .i64 x1)).setCell (p:=⟨w.heap.size,k * 6 + 2,none⟩) (Nat.le_refl _) (.int .i64 x2)).setCell (p:=⟨w.heap.size,k * 6 + 3,none⟩) (Nat.le_refl _) (.int .i64 x3)).setCell (p:=⟨w.heap.size,k * 6 + 4,none⟩) (Nat.le_refl _) (.int .i64 x4)).setCell (p:=⟨w.heap.size,k * 6 + 5,none⟩) (Nat.le_refl _) (.int .i64 x5))
   have HQ:=hid hq
   have HB3:=hid hb3
   clear hq hb3 ho2 hbX hX hb2 hB2 hst0 hst1 hst2 hst3 hst4 hst5
   go_wp2
   go_roundw
   case rel=>exact ⟨k + 1,by omega,by go_num,HQ.out,HB3.out⟩
   case measure=>simp [intOf]; omega
  ·obtain rfl:k=n:=by omega
   rw [←HL.out,copyTo_all] at hown
   go_wp2
   go_ret
   exact ⟨rfl,hown,hb⟩
set_option maxRecDepth 100000 in
set_option maxHeartbeats 1600000 in
theorem eqStmtS_same (A B:Option Addr) (c d n:Nat) (xs:List Int) (w:World) (hl:xs.length=n * 6) (ha:Cells w w.heap.size A (ints xs)) (hc:Cells w w.heap.size B (ints xs)) (hn:n≤1000000000) :
  Calls Tryz.prog 28 #[.slice A n c,.slice B n d] w fun e w'=>e=.returned (.bool true)∧Below w.heap.size w w':=by
 go_enter Tryz.func28,Tryz.ntmps28
 go_wp2
 go_loopw [5] (fun i wr=>∃ k:Nat,k≤n∧i=.int .i64 k∧Below w.heap.size w wr) (fun i _=>n - (intOf i).toNat)
 case atStart=>exact ⟨0,Nat.zero_le _,rfl,Below.refl _ _⟩
 case round =>
  obtain ⟨k,hk,rfl,hb⟩:=hrel
  by_cases hlt:k < n
  ·skip
   obtain ⟨x0,hx0⟩:∃ x,xs[k * 6]? = some x:=⟨_,List.getElem?_eq_getElem (by omega)⟩
   obtain ⟨x1,hx1⟩:∃ x,xs[k * 6 + 1]? = some x:=⟨_,List.getElem?_eq_getElem (by omega)⟩
   obtain ⟨x2,hx2⟩:∃ x,xs[k * 6 + 2]? = some x:=⟨_,List.getElem?_eq_getElem (by omega)⟩
   obtain ⟨x3,hx3⟩:∃ x,xs[k * 6 + 3]? = some x:=⟨_,List.getElem?_eq_getElem (by omega)⟩
   obtain ⟨x4,hx4⟩:∃ x,xs[k * 6 + 4]? = some x:=⟨_,List.getElem?_eq_getElem (by omega)⟩
   obtain ⟨x5,hx5⟩:∃ x,xs[k * 6 + 5]? = some x:=⟨_,List.getElem?_eq_getElem (by omega)⟩
   obtain ⟨b,off,rfl,hB,hcl⟩:=ha (by rw [ints_length]; omega)
   obtain ⟨b',off',rfl,hB',hcl'⟩:=hc (by rw [ints_length]; omega)
   have hc0:wr.cell? ⟨b,off + k * 6,none⟩=some (.int .i64 x0):=(hb.cell (p:=⟨b,off + k * 6,none⟩) hB).trans (hcl (k * 6) _ (ints_get hx0))
   have hd0:wr.cell? ⟨b',off' + k * 6,none⟩=some (.int .i64 x0):=(hb.cell (p:=⟨b',off' + k * 6,none⟩) hB').trans (hcl' (k * 6) _ (ints_get hx0))
   have hc1:wr.cell? ⟨b,off + k * 6 + 1,none⟩=some (.int .i64 x1):=(hb.cell (p:=⟨b,off + k * 6 + 1,none⟩) hB).trans (hcl (k * 6 + 1) _ (ints_get hx1))
   have hd1:wr.cell? ⟨b',off' + k * 6 + 1,none⟩=some (.int .i64 x1):=(hb.cell (p:=⟨b',off' + k * 6 + 1,none⟩) hB').trans (hcl' (k * 6 + 1) _ (ints_get hx1))
   have hc2:wr.cell? ⟨b,off + k * 6 + 2,none⟩=some (.int .i64 x2):=(hb.cell (p:=⟨b,off + k * 6 + 2,none⟩) hB).trans (hcl (k * 6 + 2) _ (ints_get hx2))
   have hd2:wr.cell? ⟨b',off' + k * 6 + 2,none⟩=some (.int .i64 x2):=(hb.cell (p:=⟨b',off' + k * 6 + 2,none⟩) hB').trans (hcl' (k * 6 + 2) _ (ints_get hx2))
   have hc3:wr.cell? ⟨b,off + k * 6 + 3,none⟩=some (.int .i64 x3):=(hb.cell (p:=⟨b,off + k * 6 + 3,none⟩) hB).trans (hcl (k * 6 + 3) _ (ints_get hx3))
   have hd3:wr.cell? ⟨b',off' + k * 6 + 3,none⟩=some (.int .i64 x3):=(hb.cell (p:=⟨b',off' + k * 6 + 3,none⟩) hB').trans (hcl' (k * 6 + 3) _ (ints_get hx3))
   have hc4:wr.cell? ⟨b,off + k * 6 + 4,none⟩=some (.int .i64 x4):=(hb.cell (p:=⟨b,off + k * 6 + 4,none⟩) hB).trans (hcl (k * 6 + 4) _ (ints_get hx4))
   have hd4:wr.cell? ⟨b',off' + k * 6 + 4,none⟩=some (.int .i64 x4):=(hb.cell (p:=⟨b',off' + k * 6 + 4,none⟩) hB').trans (hcl' (k * 6 + 4) _ (ints_get hx4))
   have hc5:wr.cell? ⟨b,off + k * 6 + 5,none⟩=some (.int .i64 x5):=(hb.cell (p:=⟨b,off + k * 6 + 5,none⟩) hB).trans (hcl (k * 6 + 5) _ (ints_get hx5))
   have hd5:wr.cell? ⟨b',off' + k * 6 + 5,none⟩=some (.int .i64 x5):=(hb.cell (p:=⟨b',off' + k * 6 + 5,none⟩) hB').trans (hcl' (k * 6 + 5) _ (ints_get hx5))
   have HB:=hid hb
   have zr:=hb.size
   have hlt':(k:Int) < (n:Int):=by omega
   clear hcl hcl' ha hc hb hx0 hx1 hx2 hx3 hx4 hx5
   have hBr:b < wr.heap.size:=by omega
   have hBr':b' < wr.heap.size:=by omega
   go_wp2_with fail
   go_region_held3 (fun w'=>w'.cell? ⟨b,off + k * 6,none⟩=some (.int .i64 x0)∧w'.cell? ⟨b,off + k * 6 + 1,none⟩=some (.int .i64 x1)∧w'.cell? ⟨b,off + k * 6 + 2,none⟩=some (.int .i64 x2)∧w'.cell? ⟨b,off + k * 6 + 3,none⟩=some (.int .i64 x3)∧w'.cell? ⟨b,off + k * 6 + 4,none⟩=some (.int .i64 x4)∧w'.cell? ⟨b,off + k * 6 + 5,none⟩=some (.int .i64 x5)∧w'.cell? ⟨b',off' + k * 6,none⟩=some (.int .i64 x0)∧w'.cell? ⟨b',off' + k * 6 + 1,none⟩=some (.int .i64 x1)∧w'.cell? ⟨b',off' + k * 6 + 2,none⟩=some (.int .i64 x2)∧w'.cell? ⟨b',off' + k * 6 + 3,none⟩=some (.int .i64 x3)∧w'.cell? ⟨b',off' + k * 6 + 4,none⟩=some (.int .i64 x4)∧w'.cell? ⟨b',off' + k * 6 + 5,none⟩=some (.int .i64 x5)) (exact ⟨cell_kept hc0 (by exact belBy) hBr,cell_kept hc1 (by exact belBy) hBr,cell_kept hc2 (by exact belBy) hBr,cell_kept hc3 (by exact belBy) hBr,cell_kept hc4 (by exact belBy) hBr,cell_kept hc5 (by exact belBy) hBr,cell_kept hd0 (by exact belBy) hBr',cell_kept hd1 (by exact belBy) hBr',cell_kept hd2 (by exact belBy) hBr',cell_kept hd3 (by exact belBy) hBr',cell_kept hd4 (by exact belBy) hBr',cell_kept hd5 (by exact belBy) hBr'⟩) ((go_at_call 72; refine (eqStmt_same _ _ _ _ _ _ _).mono ?_; rintro e w2 ⟨rfl,hb2⟩))
   have hb3:Below w.heap.size w w2:=by
    have hb0:=HB.out
    have hb4:=hb2
    exact belBy
   have HB3:=hid hb3
   clear hb2 hb3
   go_wp2
   go_roundw
   case rel=>exact ⟨k + 1,by omega,by go_num,HB3.out⟩
   case measure=>simp [intOf]; omega
  ·obtain rfl:k=n:=by omega
   go_wp2
   go_ret
   exact ⟨rfl,hb⟩
theorem szStmtS_any (A:Option Addr) (c n:Nat) (left:Int) (w:World) (hn:n≤9223372036854775807) (h0:0≤left) (h1:left≤1048576) :
  Calls Tryz.prog 21 #[.slice A n c,.int .i64 left] w fun e w'=>e=.returned (.int .i64 (pick (decide (left - n < 0)) (-1) (left - n)))∧w=w':=by
 by_cases hlt:left - n < 0
 all_goals
  simp only [hlt,decide_true,decide_false,pick_yes,pick_no]
  go_enter Tryz.func21,Tryz.ntmps21
  go_wp2
  go_ret
  exact ⟨rfl,rfl⟩
set_option maxRecDepth 100000 in
set_option maxHeartbeats 1600000 in
theorem markStmtS_any (base:Nat) (A:Option Addr) (c n:Nat) (vs:List Value) (k:Int) (w:World) (hown:w.ownsRow base 73 6 (.slice A n c) n vs) (hn:n≤100000000) (h0:0≤k) (h1:k≤1000000000000) :
  Calls Tryz.prog 30 #[.slice A n c,.int .i64 k] w fun e w'=>e=.returned (.int .i64 (k + (n * 6:Nat))) ∧
   w'.ownsRow base 73 6 (.slice A n c) n (ints (marks k (n * 6)))∧w.grownBy w' (Value.slice A n c).ownBlock:=by
 have hlen:vs.length=n * 6:=by simpa using hown.1
 rcases hown.2 with ⟨hv,rfl⟩ | ⟨g,cap,cur,hv,_⟩
 ·injection hv with hA _ hcc
  subst hA hcc
  have HO:=hid hown
  clear hown hlen
  go_enter Tryz.func30,Tryz.ntmps30
  go_wp2
  refine wp_loop_rounds 1 ?_
  rw [rounds_succ]
  go_wp2
  go_ret
  exact ⟨by simp,by simpa [marks,ints] using World.ownsRow_nil _ _ _ _,World.grownBy.refl _ _⟩
 ·injection hv with hA _ hcc
  subst hA hcc
  have HLEN:=hid hlen
  clear hlen
  go_enter Tryz.func30,Tryz.ntmps30
  go_wp2
  go_loopw [1,5] (fun q i wr=>∃ j:Nat,j≤n∧i=.int .i64 j∧q=.int .i64 (k + (j * 6:Nat))∧wr.ownsRow base 73 6 (.slice (some ⟨g,0,none⟩) n c) n (markTo k vs (j * 6))∧w.grownBy wr (some g)) (fun _ i _=>n - (intOf i).toNat)
  case atStart=>exact ⟨0,Nat.zero_le _,rfl,by simp,by rw [Nat.zero_mul,markTo_zero]; exact hown,World.grownBy.refl _ _⟩
  case round =>
   obtain ⟨j,hj,rfl,rfl,how,hg⟩:=hrel
   by_cases hlt:j < n
   ·have hlen:=HLEN.out
    obtain ⟨q,hq⟩:∃ q:Int,k + (j * 6:Nat)=q:=⟨_,rfl⟩
    have hq0:0≤q∧q≤2000000000000:=by omega
    have hu0:∃ u,wr.cell? ⟨g,j * 6,none⟩=some u:=by
     rw [how.cellAt (j * 6) (by omega)]
     have h1:=how.1
     exact ⟨_,List.getElem?_eq_getElem (by omega)⟩
    obtain ⟨u0,hu0⟩:=hu0
    have hf0:=how.frozenAt (j * 6)
    have hu1:∃ u,wr.cell? ⟨g,j * 6 + 1,none⟩=some u:=by
     rw [how.cellAt (j * 6 + 1) (by omega)]
     have h1:=how.1
     exact ⟨_,List.getElem?_eq_getElem (by omega)⟩
    obtain ⟨u1,hu1⟩:=hu1
    have hf1:=how.frozenAt (j * 6 + 1)
    have hu2:∃ u,wr.cell? ⟨g,j * 6 + 2,none⟩=some u:=by
     rw [how.cellAt (j * 6 + 2) (by omega)]
     have h1:=how.1
     exact ⟨_,List.getElem?_eq_getElem (by omega)⟩
    obtain ⟨u2,hu2⟩:=hu2
    have hf2:=how.frozenAt (j * 6 + 2)
    have hu3:∃ u,wr.cell? ⟨g,j * 6 + 3,none⟩=some u:=by
     rw [how.cellAt (j * 6 + 3) (by omega)]
     have h1:=how.1
     exact ⟨_,List.getElem?_eq_getElem (by omega)⟩
    obtain ⟨u3,hu3⟩:=hu3
    have hf3:=how.frozenAt (j * 6 + 3)
    have hu4:∃ u,wr.cell? ⟨g,j * 6 + 4,none⟩=some u:=by
     rw [how.cellAt (j * 6 + 4) (by omega)]
     have h1:=how.1
     exact ⟨_,List.getElem?_eq_getElem (by omega)⟩
    obtain ⟨u4,hu4⟩:=hu4
    have hf4:=how.frozenAt (j * 6 + 4)
    have hu5:∃ u,wr.cell? ⟨g,j * 6 + 5,none⟩=some u:=by
     rw [how.cellAt (j * 6 + 5) (by omega)]
     have h1:=how.1
     exact ⟨_,List.getElem?_eq_getElem (by omega)⟩
    obtain ⟨u5,hu5⟩:=hu5
    have hf5:=how.frozenAt (j * 6 + 5)
    have hst0:=how.stored (j * 6) (.int .i64 (q))
    rw [show q=k + ((j * 6:Nat):Int) by omega,markTo_set (by omega),←show q=k + ((j * 6:Nat):Int) by omega] at hst0
    have hst1:=hst0.1.stored (j * 6 + 1) (.int .i64 (q + 1))
    rw [show q + 1=k + ((j * 6 + 1:Nat):Int) by omega,markTo_set (by omega),←show q + 1=k + ((j * 6 + 1:Nat):Int) by omega] at hst1
    have hst2:=hst1.1.stored (j * 6 + 2) (.int .i64 (q + 1 + 1))
    rw [show q + 1 + 1=k + ((j * 6 + 2:Nat):Int) by omega,markTo_set (by omega),←show q + 1 + 1=k + ((j * 6 + 2:Nat):Int) by omega] at hst2
    have hst3:=hst2.1.stored (j * 6 + 3) (.int .i64 (q + 1 + 1 + 1))
    rw [show q + 1 + 1 + 1=k + ((j * 6 + 3:Nat):Int) by omega,markTo_set (by omega),←show q + 1 + 1 + 1=k + ((j * 6 + 3:Nat):Int) by omega] at hst3
    have hst4:=hst3.1.stored (j * 6 + 4) (.int .i64 (q + 1 + 1 + 1 + 1))
    rw [show q + 1 + 1 + 1 + 1=k + ((j * 6 + 4:Nat):Int) by omega,markTo_set (by omega),←show q + 1 + 1 + 1 + 1=k + ((j * 6 + 4:Nat):Int) by omega] at hst4
    have hst5:=hst4.1.stored (j * 6 + 5) (.int .i64 (q + 1 + 1 + 1 + 1 + 1))
    rw [show q + 1 + 1 + 1 + 1 + 1=k + ((j * 6 + 5:Nat):Int) by omega,markTo_set (by omega),←show q + 1 + 1 + 1 + 1 + 1=k + ((j * 6 + 5:Nat):Int) by omega] at hst5
    have hgr:=grown_trans (grown_trans (grown_trans (grown_trans (grown_trans (grown_trans (hg) hst0.2) hst1.2) hst2.2) hst3.2) hst4.2) hst5.2
    have hq2:=hst5.1
    rw [show j * 6 + 5 + 1=(j + 1) * 6 by omega] at hq2
    have HS:=hid hq2
    have HG:=hid hgr
    have HQ:=hid hq
    rw [hq]
    clear hq hq2 hgr how hg hlen hst0 hst1 hst2 hst3 hst4 hst5
    go_wp2
    go_roundw
    case rel=>exact ⟨j + 1,by omega,by go_num,by have:=HQ.out; congr 1; omega,HS.out,HG.out⟩
    case measure=>simp [intOf]; omega
   ·obtain rfl:j=n:=by omega
    rw [markTo_all _ _ _ HLEN.out] at how
    go_wp2
    go_ret
    exact ⟨rfl,how,hg⟩
end Go.Proofs.YtihbaieiempjeaaGreat
