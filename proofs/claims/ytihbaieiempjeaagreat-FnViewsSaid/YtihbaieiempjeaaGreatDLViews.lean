/- The law that the evaluator sees each wire's value (FnViews). No conditions. -/
import Derived.Test.YtihbaieiempjeaaGreatD0
import Derived.Test.YtihbaieiempjeaaGreatD4
import Derived.Test.YtihbaieiempjeaaGreatD21
import Derived.Test.YtihbaieiempjeaaGreatD22
import Derived.Test.YtihbaieiempjeaaGreatD23
import Derived.Test.YtihbaieiempjeaaGreatD18
import Derived.Test.YtihbaieiempjeaaGreatD14
import Derived.Test.YtihbaieiempjeaaGreatD20
set_option linter.unusedVariables false
namespace Go.Proofs.YtihbaieiempjeaaGreat
open Go.RowKit Go.ChangeShapes Go.WideShapes Go.ChangeAt
def CirOf (gs:List Gt) (os:List Int) (v:Value) (w:World):Prop:=∃ G cg O co,v=.agg #[.slice G gs.length cg,.slice O os.length co]∧Cells w w.heap.size G (ints (flatG gs))∧Cells w w.heap.size O (ints os)
theorem CirOf.stable {gs:List Gt} {os:List Int}:∀ v w w',CirOf gs os v w→Grows w w'→CirOf gs os v w':=by
 rintro v w w' ⟨G,cg,O,co,rfl,h1,h2⟩ hg
 exact ⟨G,cg,O,co,rfl,(h1.below hg).more hg.size,(h2.below hg).more hg.size⟩
namespace views
set_option maxRecDepth 100000 in
set_option maxHeartbeats 6400000 in
theorem walk (A:Option Addr) (c:Nat) (bs:List Int) (w:World) (hb:Bytes w w.heap.size A bs) :
  Calls Tryz.prog 5 #[.slice A bs.length c] w fun e w'=>e=.returned (.bool true)∧Below w.heap.size w w':=by
 have hl:=hb.len
 have HB:=hid hb
 clear hb
 by_cases h1:(1048576:Int) < (bs.length:Int)
 ·go_enter Tryz.func5,Tryz.ntmps5
  go_wp2_with (go_at_call 9; refine (big_any _ _ _ _ hl).mono ?_; rintro e w' ⟨rfl,rfl⟩)
  go_ret
  exact ⟨rfl,Below.refl _ _⟩
 go_enter Tryz.func5,Tryz.ntmps5
 go_wp2_with fail
 refine (big_any _ _ _ _ hl).mono ?_
 rintro e w' ⟨rfl,rfl⟩
 go_wp2_with fail
 refine (secure_is _ _ _ _ HB.out).mono ?_
 rintro e w1 ⟨L,Ap,cp,ls,Ai,ci,s,a,s',a',q,⟨⟨hL7,hLp⟩,hl5,⟨ht,ha⟩,⟨ht',ha'⟩,q0,q1⟩,rfl,hro,hio,hpo,hb1⟩
 obtain ⟨hu,huL⟩:=loopless hLp (by omega)
 have hcap:=own_cap hpo
 have hcel:=Cells.of_own hpo
 have hcin:=Cells.of_own hro
 rw [←toI_W hio] at hcin
 have z1:=hb1.size
 have HP1:=hid (fun (w':World) (h:Below w1.heap.size w1 w')=>And.intro ((hcel.below h).more (B':=w'.heap.size) h.size) (And.intro ((hcin.below h).more (B':=w'.heap.size) h.size) (((toI_in hio).below h (Nat.le_refl _)).more (B':=w'.heap.size) h.size)))
 have HW1:=hid hb1
 obtain ⟨hib,hm⟩:=toI_ok hio hl5
 have hvb:viewB L (insN (toI ls)) s a=true:=viewB_iff.2 ⟨hu,hib,ht,by omega⟩
 have WV:=fun w hc hci hi=>iWireView Ap cp L Ai ci (toI ls) s a w hc (by omega) hcap hci hi hm
 have VS:=fun w hc hci hi=>iValuesSeen Ap cp L Ai ci (toI ls) s a w hc (by omega) hcap hci hi hm
 have CM:=fun w hc=>sCompile Ap cp L w hc (by omega)
 have IB:=fun w hc hi=>sInBits Ai ci (toI ls) w hc hi hib
 have hB80:=inBits_len hib
 have e1:viewL L (insN (toI ls)) s a=wireL s a (cirG L) (labsTo s a (inBits (insN (toI ls))) 80):=by unfold viewL; rw [if_pos hvb]
 have e2:seenV L (insN (toI ls)) s a=ev (inBits (insN (toI ls))) (cirG L):=by
  unfold seenV
  rw [if_pos hvb]
  exact seen_sem inBits_bit (circ_parts (cir_valid hu)).2.1
 rw [hvb,e1] at WV
 rw [e2] at VS
 rw [hu] at CM
 have hwl:=wireL_length s a (cirG L) (labsTo s a (inBits (insN (toI ls))) 80)
 have hcv:=compL_valid hu
 have hco:=comp_outs L
 have hol:(cirO L).length≤1000000:=by
  have h1:=simp_outs (compL L).g (compL L).o
  have h2:=prun_outs (simpC (compL L).g (compL L).o).1 (simpC (compL L).g (compL L).o).2
  have h3:(cirO L).length=(prunC (simpC (compL L).g (compL L).o).1 (simpC (compL L).g (compL L).o).2).2.length:=rfl
  omega
 have OP:=fun G cg O co w hg ho=>(show Calls Tryz.prog 19 #[.agg #[.slice G (compL L).g.length cg,.slice O (compL L).o.length co]] w (GivesK w (cirG L) (cirO L)) from sOptimize G O cg co (compL L).g (compL L).o w hg ho hcv hco)
 have EW:=fun G cg O co D cd w hg ho hd=>(show Calls Tryz.prog 18 #[.agg #[.slice G (cirG L).length cg,.slice O (cirO L).length co],.slice D 80 cd] w (GivesInts w (ev (inBits (insN (toI ls))) (cirG L))) from by
  have h:=sEvalWires G O D cg co cd (cirG L) (cirO L) (inBits (insN (toI ls))) w hg ho hd (cir_valid hu) hol inBits_bit (inBits_bits _) hB80
  rw [hB80] at h
  exact h)
 obtain ⟨B,hB⟩:∃ x,inBits (insN (toI ls))=x:=⟨_,rfl⟩
 obtain ⟨og,hog⟩:∃ x,cirG L=x:=⟨_,rfl⟩
 obtain ⟨oo,hoo⟩:∃ x,cirO L=x:=⟨_,rfl⟩
 obtain ⟨cs,hcs⟩:∃ x,compL L=x:=⟨_,rfl⟩
 obtain ⟨gs,rs,os⟩:=cs
 rw [hB,hog] at VS EW WV hwl
 rw [hoo] at EW OP hol
 rw [hog,hcs] at OP
 rw [hcs] at CM
 rw [hB] at IB
 obtain ⟨wl,hwe⟩:∃ x,wireL s a og (labsTo s a B 80)=x:=⟨_,rfl⟩
 rw [hwe] at WV hwl
 have hnl:og.length≤1000000000:=by
  have h:=(circ_parts (cir_valid hu)).1
  rw [hog] at h
  omega
 have hel:=ev_length B og
 obtain ⟨xs,hxs⟩:∃ x,ev B og=x:=⟨_,rfl⟩
 rw [hxs] at VS EW hel
 obtain ⟨n,hn⟩:∃ x,og.length=x:=⟨_,rfl⟩
 rw [hn] at hwl hel hnl
 rw [toI_len,hl5] at WV VS IB
 have HWV:=hid WV
 have HVS:=hid VS
 have HCM:=hid CM
 have HIB:=hid IB
 have HOP:=hid OP
 have HEW:=hid EW
 have SI:=hid (fun A B c d w ha hc=>sameInts_same A B c d xs w ha hc (by omega))
 have HXL:=hid (And.intro hwl hel)
 clear hro hio hpo hb1 hcel hcin hcap hLp hib hm hu huL ht ht' hl5 WV VS CM IB OP EW hvb e1 e2 hcv hco hol hB80 hB hog hoo hcs hwe hxs hn hwl hel
 have b_1:=(Below.refl w1.heap.size w1)
 have s_1:=b_1.size
 go_upto_region 4 with fail
 refine wp_forget2 (w0:=w1) (B:=w1.heap.size) (b0:=w1.heap.size) (t0:=27) (c0:=#[.int .i64 s,.int .i64 a]) (b1:=w1.heap.size + 1) (t1:=27) (c1:=#[.int .i64 s',.int .i64 a']) ?_ ?_ ?_ ?_
 (focus exact blkcBy2)
 (focus exact blkcBy2)
 (focus (exact belBy))
 intro w2 t1_2 t2_2 hX2
 have sX2:=hX2.size
 have t1_lt:=t1_2.lt
 have t2_lt:=t2_2.lt
 have b_2:=b_1.trans (hX2.mono (by omega))
 clear b_1 hX2
 have cell_t1:=t1_2.cell
 have froz_t1:=t1_2.frozen
 have lt_t1:=t1_2.lt
 have cell_t2:=t2_2.cell
 have froz_t2:=t2_2.frozen
 have lt_t2:=t2_2.lt
 have HW2:=hid b_2
 have HT:=hid t1_2
 clear t1_2 t2_2 b_2 cell_t2 froz_t2 lt_t2 froz_t1
 go_wp2_with fail
 refine Calls.mono (HWV.out _ (HP1.out _ HW2.out).1 (HP1.out _ HW2.out).2.1 (HP1.out _ HW2.out).2.2) ?_
 rintro e w3 ⟨A3,c3,rfl,h3,hb⟩
 have z3:=hb.size
 have HW3:=hid (HW2.out.trans (hb.mono HW2.out.size))
 have t1_3:=HT.out.past hb
 clear h3 hb HW2 HT cell_t1 lt_t1
 have cell_t1:=t1_3.cell
 have lt_t1:=t1_3.lt
 clear t1_3
 go_wp2_with fail
 refine Calls.mono (HVS.out _ (HP1.out _ HW3.out).1 (HP1.out _ HW3.out).2.1 (HP1.out _ HW3.out).2.2) ?_
 rintro e w4 ⟨A4,c4,rfl,h4,hb⟩
 have z4:=hb.size
 have HW4:=hid (HW3.out.trans (hb.mono HW3.out.size))
 have HC4:=hid (Cells.of_own h4)
 clear h4 hb HW3 cell_t1 lt_t1
 go_wp2_with fail
 refine Calls.mono (HCM.out _ (HP1.out _ HW4.out).1) ?_
 rintro e w5 ⟨G,cg,O,co,rfl,h5,h6,hb⟩
 have z5:=hb.size
 have HW5:=hid (HW4.out.trans (hb.mono HW4.out.size))
 have HC5:=hid (And.intro (Cells.of_own h5) (And.intro (Cells.of_own h6) ((HC4.out.below hb).more (B':=w5.heap.size) z5)))
 clear h5 h6 hb HW4 HC4
 go_upto_region 7 with fail
 refine wp_forget1 (w0:=w5) (B:=w5.heap.size) (b0:=w5.heap.size) (t0:=40) (c0:=#[.slice G gs.length cg,.slice O os.length co]) ?_ ?_ ?_
 (focus (exact blkcBy2))
 (focus (exact belBy))
 intro w6 x6 hX6
 have z6:=hX6.size
 have HW6:=hid (HW5.out.trans (hX6.mono HW5.out.size))
 have HC6:=hid (And.intro ((HC5.out.1.below hX6).more (B':=w6.heap.size) z6) (And.intro ((HC5.out.2.1.below hX6).more (B':=w6.heap.size) z6) ((HC5.out.2.2.below hX6).more (B':=w6.heap.size) z6)))
 have cell_x:=x6.cell
 have lt_x:=x6.lt
 clear hX6 x6 HW5 HC5
 go_wp2_with fail
 refine Calls.mono (HOP.out _ _ _ _ _ HC6.out.1 HC6.out.2.1) ?_
 rintro e wa ⟨G7,cg7,O7,co7,rfl,h7,h8,hb⟩
 have HWA:=hid (HW6.out.trans (hb.mono HW6.out.size))
 have HCA:=hid (And.intro (Cells.of_own h7) (And.intro (Cells.of_own h8) ((HC6.out.2.2.below hb).more (B':=wa.heap.size) hb.size)))
 clear h7 h8 hb HW6 HC6 cell_x lt_x
 go_wp2_with fail
 refine Calls.mono (HIB.out _ (HP1.out _ HWA.out).2.1 (HP1.out _ HWA.out).2.2) ?_
 rintro e wb ⟨A8,c8,rfl,h8,hb⟩
 have HWB:=hid (HWA.out.trans (hb.mono HWA.out.size))
 have HCB:=hid (And.intro ((HCA.out.1.below hb).more (B':=wb.heap.size) hb.size) (And.intro ((HCA.out.2.1.below hb).more (B':=wb.heap.size) hb.size) (And.intro ((HCA.out.2.2.below hb).more (B':=wb.heap.size) hb.size) (Cells.of_own h8))))
 clear h8 hb HWA HCA
 go_wp2_with fail
 refine Calls.mono (HEW.out _ _ _ _ _ _ _ HCB.out.1 HCB.out.2.1 HCB.out.2.2.2) ?_
 rintro e wc ⟨A9,c9,rfl,h9,hb⟩
 have HW7:=hid (HWB.out.trans (hb.mono HWB.out.size))
 have HC7:=hid (And.intro ((HCB.out.2.2.1.below hb).more (B':=wc.heap.size) hb.size) (Cells.of_own h9))
 clear h9 hb HWB HCB
 have hwx:wl.length=xs.length:=by rw [HXL.out.1,HXL.out.2]
 rw [hwx]
 go_wp2_with fail
 refine Calls.mono (SI.out _ _ _ _ _ HC7.out.1 HC7.out.2) ?_
 rintro e w8 ⟨rfl,hb⟩
 have HW8:=hid (HW1.out.trans ((HW7.out.trans (hb.mono HW7.out.size)).mono z1))
 clear hb hwx
 go_wp2
 go_ret
 exact ⟨rfl,HW8.out⟩
set_option maxRecDepth 100000 in
theorem lifted (os:Os) (started:os.Started) (H:Type) (enc:TypeId × Value→H) :
  ReturnsInHanded {} Tryz.checked os 5 .any (Rows.fnViewsSpec.pre6 enc Tryz.prog Tryz.f5 Rows.fnViewsRow.domain false) (Rows.fnViewsSpec.post enc Tryz.prog Tryz.f5 false true false false):=by
 refine returnsInHanded_of_change (C:=Tryz.checked) own started (by kernel_rfl) Tryz.func5
  (ChangeSpec.witness6 (enc:=enc) (C:=Tryz.checked) false ⟨#[],#[.slice none 0 0],[]⟩ 8 (by kernel_rfl) (by kernel_rfl) (by kernel_rfl) (by kernel_rfl)) ?_
 intro W base args ds gs before hval0 hW _ _
 have hval:∀ (j:Nat) t v,Tryz.f5.params[j]? = some t→args[j]? = some v→Value.okWide Tryz.prog W .any base t v:=hval0
 have hW':=hW
 obtain ⟨p,q,hA0,hV,rfl,_,_⟩:=hW
 have hA:DataW.TrodAll enc Tryz.prog W 0 (fun _=>true) true Tryz.f5.params.toList args.toList ds p:=hA0
 rw [Tryz.params5] at hA hval
 obtain ⟨v0,vs0,d0,ds0,p0,q0,hargs,rfl,rfl,h0,r0⟩:=trodAll_cons hA
 obtain ⟨rfl,rfl,rfl⟩:=trodAll_nil r0
 obtain rfl:args=#[v0]:=by cases args; simp_all
 obtain ⟨rfl,rfl⟩:=trodVars_none hV
 obtain ⟨A0,c0,xs0,rfl,hb0⟩:=view_bytes Tryz.underlying22 Tryz.underlying5 (by kernel_rfl) (hval 0 22 v0 rfl rfl) h0 (fun x hx=>hW'.lt x (by simp [hx]))
 refine (walk A0 c0 xs0 W hb0).mono fun e W' ⟨he,hb⟩=>?_
 subst he
 exact ⟨_,rfl,law_post rfl (by kernel_rfl) (by kernel_rfl) rfl Tryz.underlying4 hW' rfl rfl rfl hb⟩
theorem closed:joinedFacts Tryz.prog 5 Tryz.f5 Rows.fnViewsSpec Rows.fnViewsRow=true:=by
 unfold joinedFacts
 rw [makeIs,mayIs,finalsIs]
 kernel_rfl
theorem over:Rows.fnViewsRow.holds Tryz.pinned (OpenSpec.ofChange Rows.fnViewsSpec) :=
 OpenClaim.holds_of_wide 5 Tryz.f5 rfl rfl rfl rfl rfl rfl rfl ⟨rfl,rfl,rfl,rfl,rfl⟩ rfl rfl rfl rfl rfl (by kernel_rfl) Tryz.func5 closed
  (of_decide_eq_true (by kernel_rfl)) (by unfold Func.isWrapper; first | (rw [if_pos (by decide +kernel)]; kernel_rfl) | (rw [if_neg (by decide +kernel)]; exact ⟨rfl,rfl⟩))
  (fun os started H enc _=>lifted os started H enc)
theorem proved:Rows.FnViewsSaid:=over
#print axioms proved
end views
end Go.Proofs.YtihbaieiempjeaaGreat
