/- Lemmas of the proof: EvW, InsS. -/
import Derived.Test.YtihbaieiempjeaaGreatD0
import Derived.Test.YtihbaieiempjeaaGreatD20
import Derived.Test.YtihbaieiempjeaaGreatD1
import Derived.Test.YtihbaieiempjeaaGreatD21
namespace Go.Proofs.YtihbaieiempjeaaGreat
open Go.RowKit
theorem ev_take {B:List Int} {gs:List Gt} {j:Nat} {g:Gt} (h:gs[j]? = some g):ev B (gs.take (j + 1))=ev B (gs.take j) ++ [gval B (ev B (gs.take j)) g]:=by
 rw [take_any h,ev_snoc]
theorem gates_take {gs:List Gt} (h:gatesB 0 gs=true) (j:Nat):gatesB 0 (gs.take j)=true:=by
 have e:gatesB 0 (gs.take j ++ gs.drop j)=true:=by rw [List.take_append_drop]; exact h
 rw [gatesB_append,Bool.and_eq_true] at e
 exact e.1
theorem xor_bit {x y:Int} (hx:Bit x) (hy:Bit y):bits .xor .i64 x y=(x + y) % 2:=by
 rcases hx with rfl | rfl <;> rcases hy with rfl | rfl <;> rfl
theorem and_bit {x y:Int} (hx:Bit x) (hy:Bit y):bits .and .i64 x y=x * y:=by
 rcases hx with rfl | rfl <;> rcases hy with rfl | rfl <;> rfl
theorem not_wrap {x:Int} (hx:Bit x):IntKind.i64.wrap (1 - x)=1 - x:=by
 rcases hx with rfl | rfl <;> rfl
set_option linter.unusedVariables false in
set_option maxRecDepth 100000 in
set_option maxHeartbeats 6400000 in
theorem sEvalWires (G O D:Option Addr) (cg co cd:Nat) (gs:List Gt) (os ds:List Int) (w:World) (hg:Cells w w.heap.size G (ints (flatG gs))) (ho:Cells w w.heap.size O (ints os)) (hd:Cells w w.heap.size D (ints ds)) (hc:circB gs os=true) (hm:os.length≤1000000) (hb:∀ x∈ds,Bit x) (hbb:bitsB ds=true) (hn:ds.length=80) :
  Calls Tryz.prog 18 #[.agg #[.slice G gs.length cg,.slice O os.length co],.slice D ds.length cd] w (GivesInts w (ev ds gs)):=by
 obtain ⟨hn6,hgv,hov⟩:=circ_parts hc
 have HC:=hid (And.intro hg (And.intro ho hd))
 have HK:=hid (fun w hg ho=>(show Calls Tryz.prog 62 #[.agg #[.slice G gs.length cg,.slice O os.length co]] w (fun e w'=>e=.returned (.bool true)∧Below w.heap.size w w') from by have h:=sCircOk G O cg co gs os w hg ho (by omega) hm; rw [hc] at h; exact h))
 have HD:=hid (fun w hd=>sBits D cd ds (80:Int) w hd (by omega))
 rw [hbb,show ((ds.length:Int) == 80)=true by rw [hn]; rfl] at HD
 have HV:=hid hgv
 have HBT0:=hid (fun j i=>ev_bitD (B:=ds) (gs:=gs.take j) hb (gates_take hgv j) i)
 have hn2:=Nat.le_of_eq hn.symm
 rw [show GivesInts w (ev ds gs)=fun e w'=>∃ A c,e=.returned (.slice A gs.length c)∧w'.ownsRow w.heap.size 3 1 (.slice A gs.length c) gs.length (ints (ev ds gs))∧Below w.heap.size w w' by unfold GivesInts; rw [ev_length]]
 clear hg ho hd hc hgv hov hn hb hbb
 go_enter Tryz.func18,Tryz.ntmps18
 go_upto_region 2 with fail
 apply wp_forget2 (b0:=w.heap.size) (b1:=w.heap.size + 1) (w0:=w) (B:=w.heap.size)
 focus (exact blkBy)
 focus (exact blkBy)
 focus (exact belBy)
 intro W1 k0 k1 hbW
 have c0:=k0.cell
 have f0:=k0.frozen
 have z0:=k0.lt
 have c1:=k1.cell
 have f1:=k1.frozen
 have z1:=k1.lt
 have ho0:=own_empty (base:=w.heap.size) (size:=1) k1 (by omega)
 have hbs:=hbW.size
 have HCW:=hid (And.intro ((HC.out.1.below hbW).more hbW.size) (And.intro ((HC.out.2.1.below hbW).more hbW.size) ((HC.out.2.2.below hbW).more hbW.size)))
 go_wp2_with fail
 refine Calls.mono (HK.out _ HCW.out.1 HCW.out.2.1) ?_
 rintro e w1 ⟨rfl,hb1⟩
 have hz10:=hb1.size
 have k0a:=k0.past hb1
 clear c0 f0 z0 c1 f1 z1
 have c0:=k0a.cell
 have z0:=k0a.lt
 go_wp2_with fail
 refine Calls.mono (HD.out _ ((HCW.out.2.2.below hb1).more hz10)) ?_
 rintro e w' ⟨rfl,rfl⟩
 have HU:=hid (And.intro k0a (hbW.trans (hb1.mono hbW.size)))
 have HO0:=hid (own_below ho0 hb1)
 clear HCW HK HD k0 k0a k1 ho0
 have hz1:=HU.out.2.size
 go_wp2_with fail
 go_loopw [5,6] (fun o i wr=>∃ (j k':Nat) (A':Option Addr),j≤gs.length∧i=.int .i64 (j:Int)∧o=.slice A' j k'∧wr.ownsRow w.heap.size 3 1 (.slice A' j k') j (ints (ev ds (gs.take j)))∧Blk wr w.heap.size 40 #[.slice G gs.length cg,.slice O os.length co]∧Below w.heap.size w wr) (fun _ i _=>gs.length - (intOf i).toNat)
 case atStart=>exact ⟨0,0,some ⟨w.heap.size + 1,0,none⟩,Nat.zero_le _,rfl,rfl,HO0.out,HU.out.1,HU.out.2⟩
 case round =>
  obtain ⟨j,k',A',hj,rfl,rfl,hown,hx0,hbw⟩:=hrel
  have zw:=hbw.size
  have cell_x:=hx0.cell
  have lt_x:=hx0.lt
  by_cases hlt:j < gs.length
  ·obtain ⟨⟨k,x,y⟩,hx⟩:∃ s,gs[j]? = some s:=⟨_,List.getElem?_eq_getElem hlt⟩
   have hgv:=gatesB_at HV.out hx
   rw [Nat.zero_add] at hgv
   have hst:=ev_take (B:=ds) hx
   obtain ⟨bG,og,rfl,hBg,d0,d1,d2⟩:=gt_cells HC.out.1 hbw hx
   have hxl:(ev ds (gs.take j)).length≤j:=by rw [ev_length,List.length_take]; omega
   have hxl2:j≤(ev ds (gs.take j)).length:=by rw [ev_length,List.length_take]; omega
   have hbt:=HBT0.out j
   obtain ⟨xs,hxs⟩:∃ c,ev ds (gs.take j)=c:=⟨_,rfl⟩
   rw [hxs] at hown hst hxl hxl2 hbt
   have hlt':(j:Int) < (gs.length:Int):=by omega
   have j00:(0:Int)≤(j:Int):=by omega
   have hb1:j + 1≤1000000:=by omega
   have HBT:=hid hbt
   have HI:=hid (And.intro hown (And.intro hx0 hbw))
   have HST:=hid hst
   clear hx hbt hxs hown hx0 hbw hst
   have b_30:=(Below.refl wr.heap.size wr)
   have s_30:=b_30.size
   go_upto_region 8 with fail
   refine wp_forget1 (w0:=wr) (B:=wr.heap.size) (b0:=wr.heap.size) (t0:=96) (c0:=#[.int .i64 k,.int .i64 x,.int .i64 y]) ?_ ?_ ?_
   (focus exact blkcBy2)
   (focus (exact belBy))
   intro w31 q_31 hX31
   have sX31:=hX31.size
   have q_lt:=q_31.lt
   have b_31:=b_30.trans (hX31.mono (by omega))
   clear b_30 hX31
   have cell_q:=q_31.cell
   have froz_q:=q_31.frozen
   have lt_q:=q_31.lt
   have z31:=b_31.size
   have HI3:=hid (And.intro (own_below HI.out.1 b_31) (And.intro (HI.out.2.1.past b_31) (And.intro (HI.out.2.2.trans (b_31.mono zw)) q_31)))
   clear b_31 q_31 HI d0 d1 d2 cell_x lt_x
   rcases gate_kind hgv with hk | hk | hk | hk | hk
   ·obtain rfl:k=1:=hk
    have hab:=(gate_is1 hgv rfl).1
    dsimp only at hab
    obtain ⟨x,rfl⟩:=Int.eq_ofNat_of_zero_le hab.1
    have hzx:ds[x]? = some (ds.getD x 0):=by rw [List.getD_eq_getElem?_getD,List.getElem?_eq_getElem (by omega)]; rfl
    obtain ⟨bz,oz,rfl,hBz,hcz⟩:=Cells.at_ (HC.out.2.2.below HI3.out.2.2.1) (ints_get hzx)
    have fx:=hcz _ _ (ints_get hzx)
    have hxlt:(x:Int) < (ds.length:Int):=by omega
    have hx0:(0:Int)≤(x:Int):=by omega
    have hlx:True:=trivial
    obtain ⟨zx,ex⟩:∃ z,ds.getD x 0=z:=⟨_,rfl⟩
    rw [ex] at fx
    have HE:=hid (HST.out.trans (show _=xs ++ [zx] by rw [←ex]; rfl))
    clear hcz hzx ex hgv hab hlx
    go_upto_region 18 with fail
    refine wp_forget0 (w0:=w31) (B:=w31.heap.size) (by exact belBy) ?_
    intro w5 hb
    have z5:=hb.size
    have ho5:=own_below HI3.out.1 hb
    have HB5:=hid (And.intro (HI3.out.2.1.past hb) (HI3.out.2.2.1.trans (hb.mono (by omega))))
    have hw5:=HB5.out.2.size
    clear hb HI3 cell_q froz_q lt_q fx hxlt hx0
    go_wp2_with (at_builtin; refine app_ints rfl _ _ rfl (base:=w.heap.size) (L:=xs) (v:=Value.slice A' j k') rfl (ho5.alloc _) (by simp; omega) [zx] rfl rfl (top_cells _ [_] _) hb1 ?_)
    intro A1 k1 w8 ho8 hg8 hl8
    have hlo:=own_in ho5
    have hgg:=grown_alloc hg8
    have HF:=hid (And.intro ho8 (And.intro (gr_blk hgg HB5.out.1 (own_ne_obj ho5 HB5.out.1 (by decide))) (gr_below hgg HB5.out.2 (by omega) (fun p hp=>by have:=(hlo p hp).1; omega))))
    clear ho8 hg8 hl8 ho5 hlo hgg
    go_wp2
    go_roundw
    case rel=>exact ⟨j + 1,k1,A1,by omega,by go_num,rfl,by rw [HE.out]; exact HF.out.1,HF.out.2.1,HF.out.2.2⟩
    case measure=>simp [intOf]; omega
   ·obtain rfl:k=2:=hk
    have HE:=hid (HST.out.trans (show _=xs ++ [x] from rfl))
    clear hgv
    go_upto_region 18 with fail
    refine wp_forget0 (w0:=w31) (B:=w31.heap.size) (by exact belBy) ?_
    intro w5 hb
    have z5:=hb.size
    have ho5:=own_below HI3.out.1 hb
    have HB5:=hid (And.intro (HI3.out.2.1.past hb) (HI3.out.2.2.1.trans (hb.mono (by omega))))
    have hw5:=HB5.out.2.size
    clear hb HI3 cell_q froz_q lt_q
    go_wp2_with (at_builtin; refine app_ints rfl _ _ rfl (base:=w.heap.size) (L:=xs) (v:=Value.slice A' j k') rfl (ho5.alloc _) (by simp; omega) [x] rfl rfl (top_cells _ [_] _) hb1 ?_)
    intro A1 k1 w8 ho8 hg8 hl8
    have hlo:=own_in ho5
    have hgg:=grown_alloc hg8
    have HF:=hid (And.intro ho8 (And.intro (gr_blk hgg HB5.out.1 (own_ne_obj ho5 HB5.out.1 (by decide))) (gr_below hgg HB5.out.2 (by omega) (fun p hp=>by have:=(hlo p hp).1; omega))))
    clear ho8 hg8 hl8 ho5 hlo hgg
    go_wp2
    go_roundw
    case rel=>exact ⟨j + 1,k1,A1,by omega,by go_num,rfl,by rw [HE.out]; exact HF.out.1,HF.out.2.1,HF.out.2.2⟩
    case measure=>simp [intOf]; omega
   ·obtain rfl:k=3:=hk
    have hab:=gate_is34 hgv (.inl rfl)
    dsimp only at hab
    obtain ⟨y,rfl⟩:=Int.eq_ofNat_of_zero_le hab.2.1
    obtain ⟨x,rfl⟩:=Int.eq_ofNat_of_zero_le hab.1.1
    have hzx:xs[x]? = some (xs.getD x 0):=by rw [List.getD_eq_getElem?_getD,List.getElem?_eq_getElem (by omega)]; rfl
    obtain ⟨bz,oz,rfl,hBz,hcz⟩:=Cells.at_ (Cells.of_own HI3.out.1) (ints_get hzx)
    have fx:=hcz _ _ (ints_get hzx)
    have hxlt:(x:Int) < (j:Int):=by omega
    have hx0:(0:Int)≤(x:Int):=by omega
    have hlx:=HBT.out x
    obtain ⟨zx,ex⟩:∃ z,xs.getD x 0=z:=⟨_,rfl⟩
    rw [ex] at fx hlx
    have hzy:xs[y]? = some (xs.getD y 0):=by rw [List.getD_eq_getElem?_getD,List.getElem?_eq_getElem (by omega)]; rfl
    have fy:=hcz _ _ (ints_get hzy)
    have hly:=HBT.out y
    have hylt:(y:Int) < (j:Int):=by omega
    have hy0:(0:Int)≤(y:Int):=by omega
    obtain ⟨zy,ey⟩:∃ z,xs.getD y 0=z:=⟨_,rfl⟩
    rw [ey] at fy hly
    clear hcz hzx hzy
    have q0:=cell_q 0
    have q1:=cell_q 1
    have q2:=cell_q 2
    dsimp at q0 q1 q2
    have HE:=hid (HST.out.trans (show _=xs ++ [bits .xor .i64 zx zy] by rw [xor_bit hlx hly,←ex,←ey]; rfl))
    clear hgv hab ex ey hlx hly
    go_upto_region 13 with fail
    go_quiet (fail)
    go_upto_region 18 with fail
    refine wp_forget0 (w0:=w31) (B:=w31.heap.size) (by exact belBy) ?_
    intro w5 hb
    have z5:=hb.size
    have ho5:=own_below HI3.out.1 hb
    have HB5:=hid (And.intro (HI3.out.2.1.past hb) (HI3.out.2.2.1.trans (hb.mono (by omega))))
    have hw5:=HB5.out.2.size
    clear hb HI3 cell_q froz_q lt_q fx fy hxlt hylt hx0 hy0 q0 q1 q2
    go_wp2_with (at_builtin; refine app_ints rfl _ _ rfl (base:=w.heap.size) (L:=xs) (v:=Value.slice (some ⟨bz,oz,none⟩) j k') rfl (ho5.alloc _) (by simp; omega) [bits .xor .i64 zx zy] rfl rfl (top_cells _ [_] _) hb1 ?_)
    intro A1 k1 w8 ho8 hg8 hl8
    have hlo:=own_in ho5
    have hgg:=grown_alloc hg8
    have HF:=hid (And.intro ho8 (And.intro (gr_blk hgg HB5.out.1 (own_ne_obj ho5 HB5.out.1 (by decide))) (gr_below hgg HB5.out.2 (by omega) (fun p hp=>by have:=(hlo p hp).1; omega))))
    clear ho8 hg8 hl8 ho5 hlo hgg
    go_wp2
    go_roundw
    case rel=>exact ⟨j + 1,k1,A1,by omega,by go_num,rfl,by rw [HE.out]; exact HF.out.1,HF.out.2.1,HF.out.2.2⟩
    case measure=>simp [intOf]; omega
   ·obtain rfl:k=4:=hk
    have hab:=gate_is34 hgv (.inr rfl)
    dsimp only at hab
    obtain ⟨y,rfl⟩:=Int.eq_ofNat_of_zero_le hab.2.1
    obtain ⟨x,rfl⟩:=Int.eq_ofNat_of_zero_le hab.1.1
    have hzx:xs[x]? = some (xs.getD x 0):=by rw [List.getD_eq_getElem?_getD,List.getElem?_eq_getElem (by omega)]; rfl
    obtain ⟨bz,oz,rfl,hBz,hcz⟩:=Cells.at_ (Cells.of_own HI3.out.1) (ints_get hzx)
    have fx:=hcz _ _ (ints_get hzx)
    have hxlt:(x:Int) < (j:Int):=by omega
    have hx0:(0:Int)≤(x:Int):=by omega
    have hlx:=HBT.out x
    obtain ⟨zx,ex⟩:∃ z,xs.getD x 0=z:=⟨_,rfl⟩
    rw [ex] at fx hlx
    have hzy:xs[y]? = some (xs.getD y 0):=by rw [List.getD_eq_getElem?_getD,List.getElem?_eq_getElem (by omega)]; rfl
    have fy:=hcz _ _ (ints_get hzy)
    have hly:=HBT.out y
    have hylt:(y:Int) < (j:Int):=by omega
    have hy0:(0:Int)≤(y:Int):=by omega
    obtain ⟨zy,ey⟩:∃ z,xs.getD y 0=z:=⟨_,rfl⟩
    rw [ey] at fy hly
    clear hcz hzx hzy
    have q0:=cell_q 0
    have q1:=cell_q 1
    have q2:=cell_q 2
    dsimp at q0 q1 q2
    have HE:=hid (HST.out.trans (show _=xs ++ [bits .and .i64 zx zy] by rw [and_bit hlx hly,←ex,←ey]; rfl))
    clear hgv hab ex ey hlx hly
    go_upto_region 15 with fail
    go_quiet (fail)
    go_upto_region 18 with fail
    refine wp_forget0 (w0:=w31) (B:=w31.heap.size) (by exact belBy) ?_
    intro w5 hb
    have z5:=hb.size
    have ho5:=own_below HI3.out.1 hb
    have HB5:=hid (And.intro (HI3.out.2.1.past hb) (HI3.out.2.2.1.trans (hb.mono (by omega))))
    have hw5:=HB5.out.2.size
    clear hb HI3 cell_q froz_q lt_q fx fy hxlt hylt hx0 hy0 q0 q1 q2
    go_wp2_with (at_builtin; refine app_ints rfl _ _ rfl (base:=w.heap.size) (L:=xs) (v:=Value.slice (some ⟨bz,oz,none⟩) j k') rfl (ho5.alloc _) (by simp; omega) [bits .and .i64 zx zy] rfl rfl (top_cells _ [_] _) hb1 ?_)
    intro A1 k1 w8 ho8 hg8 hl8
    have hlo:=own_in ho5
    have hgg:=grown_alloc hg8
    have HF:=hid (And.intro ho8 (And.intro (gr_blk hgg HB5.out.1 (own_ne_obj ho5 HB5.out.1 (by decide))) (gr_below hgg HB5.out.2 (by omega) (fun p hp=>by have:=(hlo p hp).1; omega))))
    clear ho8 hg8 hl8 ho5 hlo hgg
    go_wp2
    go_roundw
    case rel=>exact ⟨j + 1,k1,A1,by omega,by go_num,rfl,by rw [HE.out]; exact HF.out.1,HF.out.2.1,HF.out.2.2⟩
    case measure=>simp [intOf]; omega
   ·obtain rfl:k=5:=hk
    have hab:=(gate_is5 hgv rfl).1
    dsimp only at hab
    obtain ⟨x,rfl⟩:=Int.eq_ofNat_of_zero_le hab.1
    have hzx:xs[x]? = some (xs.getD x 0):=by rw [List.getD_eq_getElem?_getD,List.getElem?_eq_getElem (by omega)]; rfl
    obtain ⟨bz,oz,rfl,hBz,hcz⟩:=Cells.at_ (Cells.of_own HI3.out.1) (ints_get hzx)
    have fx:=hcz _ _ (ints_get hzx)
    have hxlt:(x:Int) < (j:Int):=by omega
    have hx0:(0:Int)≤(x:Int):=by omega
    have hlx:=HBT.out x
    obtain ⟨zx,ex⟩:∃ z,xs.getD x 0=z:=⟨_,rfl⟩
    rw [ex] at fx hlx
    have hw1:=not_wrap hlx
    have HE:=hid (HST.out.trans (show _=xs ++ [1 - zx] by rw [←ex]; rfl))
    clear hcz hzx hgv hab ex hlx
    go_upto_region 18 with fail
    refine wp_forget0 (w0:=w31) (B:=w31.heap.size) (by exact belBy) ?_
    intro w5 hb
    have z5:=hb.size
    have ho5:=own_below HI3.out.1 hb
    have HB5:=hid (And.intro (HI3.out.2.1.past hb) (HI3.out.2.2.1.trans (hb.mono (by omega))))
    have hw5:=HB5.out.2.size
    clear hb HI3 cell_q froz_q lt_q fx hxlt hx0
    go_wp2_with (at_builtin; refine app_ints rfl _ _ rfl (base:=w.heap.size) (L:=xs) (v:=Value.slice (some ⟨bz,oz,none⟩) j k') rfl (ho5.alloc _) (by simp; omega) [1 - zx] rfl rfl (top_cells _ [_] _) hb1 ?_)
    intro A1 k1 w8 ho8 hg8 hl8
    have hlo:=own_in ho5
    have hgg:=grown_alloc hg8
    have HF:=hid (And.intro ho8 (And.intro (gr_blk hgg HB5.out.1 (own_ne_obj ho5 HB5.out.1 (by decide))) (gr_below hgg HB5.out.2 (by omega) (fun p hp=>by have:=(hlo p hp).1; omega))))
    clear ho8 hg8 hl8 ho5 hlo hgg
    go_wp2
    go_roundw
    case rel=>exact ⟨j + 1,k1,A1,by omega,by go_num,rfl,by rw [HE.out]; exact HF.out.1,HF.out.2.1,HF.out.2.2⟩
    case measure=>simp [intOf]; omega
  ·obtain rfl:j=gs.length:=by omega
   rw [List.take_length] at hown
   have HI:=hid (And.intro hown hbw)
   clear hown hbw hx0
   go_wp2
   ((try simp only [Exit.inBlock,Exit.then]); apply bodyPost_ret0; focus ((try simp only [results,Tryz.results18]); (try go_simp); (try rfl)))
   exact ⟨A',k',rfl,HI.out.1,HI.out.2⟩
open Go.RowKit
theorem sNib (A:Option Addr) (c:Nat) (xs:List Int) (w:World) (hc:Cells w w.heap.size A (ints xs)) (hn:xs.length≤1000000000) :
  Calls Tryz.prog 84 #[.slice A xs.length c] w fun e w'=>e=.returned (.bool (nbB xs))∧w=w':=by
 go_enter Tryz.func84,Tryz.ntmps84
 go_wp2
 go_loop [3] (fun i=>∃ j:Nat,j≤xs.length∧i=.int .i64 j∧nbB (xs.take j)=true) (fun i=>xs.length - (intOf i).toNat)
 case atStart=>exact ⟨0,Nat.zero_le _,rfl,rfl⟩
 case round =>
  obtain ⟨j,hj,rfl,hw⟩:=hrel
  by_cases hlt:j < xs.length
  ·obtain ⟨x,hx⟩:∃ x,xs[j]? = some x:=⟨_,List.getElem?_eq_getElem hlt⟩
   obtain ⟨b,off,rfl,hB,hcl⟩:=hc (by rw [ints_length]; omega)
   have hcell:w.cell? ⟨b,off + j,none⟩=some (.int .i64 x):=hcl j _ (ints_get hx)
   have HW:=hid hw
   have HX:=hid hx
   clear hcl hc hw hx
   cases hb:inB x 0 15
   ·go_wp2_with (go_at_call 123; refine (sWithin _ _ _ _).mono ?_; rintro e w' ⟨rfl,rfl⟩)
    go_ret
    exact ⟨ret_bool (by rw [nbB_no HX.out hb]),rfl⟩
   ·go_wp2_with (go_at_call 123; refine (sWithin _ _ _ _).mono ?_; rintro e w' ⟨rfl,rfl⟩)
    go_round
    case rel=>exact ⟨j + 1,by omega,by go_num,nbB_snoc HX.out HW.out hb⟩
    case measure=>simp [intOf]; omega
  ·obtain rfl:j=xs.length:=by omega
   rw [List.take_length] at hw
   have HW:=hid hw
   clear hw
   go_wp2
   go_ret
   exact ⟨ret_bool HW.out.symm,rfl⟩
theorem sInsOk (A:Option Addr) (c:Nat) (ls:List In1) (w:World) (hc:Cells w w.heap.size A (insW ls)) (hi:InsW w w.heap.size ls) (hn:ls.length≤1000000000) (hm:∀ q∈ls,q.2.2.length≤1000000000) :
  Calls Tryz.prog 42 #[.slice A ls.length c] w fun e w'=>e=.returned (.bool (insB (insN ls)))∧w=w':=by
 have HI:=hid hi
 have HM:=hid hm
 clear hi hm
 go_enter Tryz.func42,Tryz.ntmps42
 go_wp2
 go_loop [3] (fun i=>∃ j:Nat,j≤ls.length∧i=.int .i64 j∧lnsB ((insN ls).take j)=true) (fun i=>ls.length - (intOf i).toNat)
 case atStart=>exact ⟨0,Nat.zero_le _,rfl,rfl⟩
 case round =>
  obtain ⟨j,hj,rfl,hw⟩:=hrel
  by_cases hlt:j < ls.length
  ·obtain ⟨⟨A1,c1,xs⟩,hx⟩:∃ x,ls[j]? = some x:=⟨_,List.getElem?_eq_getElem hlt⟩
   obtain ⟨b,off,rfl,hB,hcl⟩:=hc (by rw [insW_length]; omega)
   have hcell:w.cell? ⟨b,off + j,none⟩=some (.slice A1 xs.length c1):=hcl j _ (insW_get hx)
   have HN:=hid (sNib A1 c1 xs w (HI.out _ _ hx) (HM.out _ (List.mem_of_getElem? hx)))
   have HX:=hid (insN_get hx)
   have HW:=hid hw
   have hlt':(j:Int) < (ls.length:Int):=by omega
   clear hcl hc hw hx
   obtain ⟨m,hm⟩:∃ m,xs.length=m:=⟨_,rfl⟩
   by_cases h4:m=4
   ·subst h4
    rw [hm] at hcell HN
    have HL:=hid hm
    clear hm
    cases hb:nbB xs
    ·rw [hb] at HN
     go_wp2_with (go_at_call 84; (with_reducible refine (HN.out).mono ?_); rintro e w' ⟨rfl,rfl⟩)
     go_ret
     exact ⟨ret_bool (by rw [insB_eq,lnsB_no HX.out (by unfold lnB; rw [hb,Bool.and_false]),Bool.false_and]),rfl⟩
    ·rw [hb] at HN
     go_wp2_with (go_at_call 84; (with_reducible refine (HN.out).mono ?_); rintro e w' ⟨rfl,rfl⟩)
     go_round
     case rel=>exact ⟨j + 1,by omega,by go_num,lnsB_snoc HX.out HW.out (by unfold lnB; rw [hb,Bool.and_true]; exact decide_eq_true HL.out)⟩
     case measure=>simp [intOf]; omega
   ·have HL:=hid hm
    rw [hm] at hcell
    have h4':((m:Int) == 4)=false:=by simp; omega
    have h4'':((m:Int) != 4)=true:=by simp; omega
    clear hm
    go_wp2_with fail
    go_ret
    exact ⟨ret_bool (by rw [insB_eq,lnsB_no HX.out (by unfold lnB; rw [decide_eq_false (by rw [HL.out]; exact h4),Bool.false_and]),Bool.false_and]),rfl⟩
  ·obtain rfl:j=ls.length:=by omega
   rw [show ls.length=(insN ls).length from (insN_length ls).symm,List.take_length] at hw
   have HW:=hid hw
   clear hw
   go_wp2
   go_ret
   exact ⟨ret_bool (by rw [insB_eq,HW.out,insN_length,Bool.true_and,Bool.eq_iff_iff,beq_iff_eq,decide_eq_true_eq]; omega),rfl⟩
set_option maxRecDepth 100000 in
set_option maxHeartbeats 3200000 in
theorem sInBits (A:Option Addr) (c:Nat) (ls:List In1) (w:World) (hc:Cells w w.heap.size A (insW ls)) (hi:InsW w w.heap.size ls) (hb:insB (insN ls)=true) :
  Calls Tryz.prog 20 #[.slice A ls.length c] w fun e w'=>∃ A' c',e=.returned (.slice A' 80 c')∧w'.ownsRow w.heap.size 3 1 (.slice A' 80 c') 80 (ints (inBits (insN ls)))∧Below w.heap.size w w':=by
 have hb2:=hb
 rw [insB_eq,Bool.and_eq_true,decide_eq_true_eq,insN_length] at hb2
 obtain ⟨hlb,h5⟩:=hb2
 have h4:∀ q∈ls,q.2.2.length=4∧nbB q.2.2=true:=fun q hq=>by
  have h:=List.all_eq_true.1 hlb q.2.2 (List.mem_map.2 ⟨q,hq,rfl⟩)
  unfold lnB at h
  rw [Bool.and_eq_true,decide_eq_true_eq] at h
  exact h
 have HM:=hid (fun q (hq:q∈ls)=>(show q.2.2.length≤1000000000 by have:=(h4 q hq).1; omega))
 have HI:=hid hi
 have HC:=hid hc
 have HB:=hid hb
 have H4:=hid h4
 have HT:=hid (fun k (hk:k≤5)=>inBits_take hlb k (by rw [insN_length]; omega))
 have HK:=hid (fun w' (h:Below w.heap.size w w')=>sInsOk A c ls w' ((hc.below h).more h.size) ((hi.below h (Nat.le_refl _)).more h.size) (by omega) (fun q hq=>HM.out q hq))
 rw [hb] at HK
 have H5:=hid h5
 simp only [h5] at HK
 rw [h5]
 obtain ⟨ab,ao,rfl,hB,hcl⟩:=hc (by rw [insW_length]; omega)
 clear hlb h5 hi hb h4
 go_enter Tryz.func20,Tryz.ntmps20
 go_wp2_with fail
 go_loopw [3,4,5,6] (fun o i _ _ wr=>∃ k:Nat,k≤5∧i=.int .i64 k∧BitsE w (inBits ((insN ls).take k)) (16 * k) o wr) (fun _ i _ _ _=>5 - (intOf i).toNat)
 case atStart=>exact ⟨0,Nat.zero_le _,rfl,some ⟨w.heap.size,0,none⟩,0,rfl,rfl,own_lit (size:=1) #[] 0 rfl (Nat.le_refl _) (Nat.zero_le _) rfl,(Below.refl _ _).alloc (Nat.le_refl _) _⟩
 case round =>
  obtain ⟨k,hk,rfl,hS⟩:=hrel
  by_cases hlt:k < 5
  ·obtain ⟨⟨A1,c1,l⟩,hq⟩:∃ q,ls[k]? = some q:=⟨_,List.getElem?_eq_getElem (by have:=H5.out; omega)⟩
   obtain ⟨hl4,hln⟩:=H4.out _ (List.mem_of_getElem? hq)
   dsimp only at hl4 hln
   have hst:=inBits_step (insN_get hq)
   dsimp only at hst
   obtain ⟨b',off',rfl,hB',hcl'⟩:=HI.out k _ hq (by dsimp only; rw [ints_length]; omega)
   have d0:=hcl k _ (insW_get hq)
   dsimp only at d0
   rw [hl4] at d0
   have hlt':(k:Int) < 5:=by omega
   have HD:=hid (show Below w.heap.size w wr from by obtain ⟨_,_,_,_,_,h⟩:=hS; exact h)
   have zw:=HD.out.size
   have HS:=hid hS
   have HST:=hid hst
   have d1:wr.cell? ⟨ab,ao + k,none⟩=some (.slice (some ⟨b',off',none⟩) 4 c1):=(HD.out.cell (p:=⟨ab,ao + k,none⟩) hB).trans d0
   have HCL:=hid (fun (j:Nat) (x:Int) (h:l[j]? = some x)=>hcl' j _ (ints_get h))
   have HL:=hid (And.intro hl4 hln)
   have HX:=hid (And.intro hq d0)
   clear hS hq hst hl4 hln hcl' d0
   go_wp2_with (go_at_call 42; (with_reducible refine (HK.out _ HD.out).mono ?_); rintro e w' ⟨rfl,rfl⟩)
   go_loopw [3,5,6] (fun o i _ wr=>∃ j:Nat,j≤4∧i=.int .i64 j∧BitsE w (inBits ((insN ls).take k) ++ bits16 (l.take j)) (16 * k + 4 * j) o wr) (fun _ i _ _=>4 - (intOf i).toNat)
   case atStart=>exact ⟨0,Nat.zero_le _,rfl,by rw [show bits16 (l.take 0)=[] from rfl,List.append_nil]; exact HS.out⟩
   case round =>
    obtain ⟨j,hj,rfl,hS⟩:=hrel
    by_cases hlt2:j < 4
    ·have hlt2':(j:Int) < 4:=by omega
     obtain ⟨x,hx⟩:∃ x,l[j]? = some x:=⟨_,List.getElem?_eq_getElem (by have:=HL.out.1; omega)⟩
     have hx15:=inB_iff.1 (List.all_eq_true.1 HL.out.2 x (List.mem_of_getElem? hx))
     have HS2:=hid (And.intro hS (bits16_step hx))
     have HD2:=hid (show Below w.heap.size w wr from by obtain ⟨_,_,_,_,_,h⟩:=hS; exact h)
     have zw2:=HD2.out.size
     have d2:wr.cell? ⟨b',off' + j,none⟩=some (.int .i64 x):=(HD2.out.cell (p:=⟨b',off' + j,none⟩) hB').trans (HCL.out j x hx)
     have HX2:=hid hx
     clear hS hx d1
     go_wp2_with fail
     go_loopw [3,6] (fun o i wr=>∃ m:Nat,m≤4∧i=.int .i64 m∧BitsE w (inBits ((insN ls).take k) ++ bits16 (l.take j) ++ (bits4 x).take m) (16 * k + 4 * j + m) o wr) (fun _ i _=>4 - (intOf i).toNat)
     case atStart=>exact ⟨0,Nat.zero_le _,rfl,by rw [List.take_zero,List.append_nil]; exact HS2.out.1⟩
     case round =>
      obtain ⟨m,hm,rfl,A',c',hlen,rfl,hown,hbw⟩:=hrel
      have zw3:=hbw.size
      obtain ⟨xs,hxs⟩:∃ q,inBits ((insN ls).take k) ++ bits16 (l.take j) ++ (bits4 x).take m=q:=⟨_,rfl⟩
      rw [hxs] at hlen hown
      by_cases hlt3:m < 4
      ·have hlt3':(m:Int) < 4:=by omega
       have hbt:=bit_take hx15.1 hx15.2 hlt3
       have HE:=hid (show inBits ((insN ls).take k) ++ bits16 (l.take j) ++ (bits4 x).take (m + 1)=xs ++ [bits .and .i64 (x / 2 ^ m) 1] by rw [hbt,←List.append_assoc,hxs])
       have d1:wr.cell? ⟨ab,ao + k,none⟩=some (.slice (some ⟨b',off',none⟩) 4 c1):=(hbw.cell (p:=⟨ab,ao + k,none⟩) hB).trans HX.out.2
       have d3:wr.cell? ⟨b',off' + j,none⟩=some (.int .i64 x):=(hbw.cell (p:=⟨b',off' + j,none⟩) hB').trans (HCL.out j x HX2.out)
       have HO:=hid (And.intro hown (And.intro hbw hlen))
       clear hbt hxs hown hbw hlen d2
       go_wp2_with (at_builtin; refine app_inti rfl _ _ rfl (base:=w.heap.size) (L:=xs) (v:=Value.slice A' (16 * k + 4 * j + m) c') rfl (HO.out.1.alloc _) (by simp; omega) [bits .and .i64 (x / 2 ^ m) 1] rfl rfl (top_cells _ [_] _) (by omega) ?_)
       intro A3 c3 w3 ho3 hg3 hl3
       have hlo:=own_in HO.out.1
       have HF:=hid (And.intro ho3 (gr_below (grown_alloc hg3) HO.out.2.1 (by omega) (fun p hp=>by have:=(hlo p hp).1; omega)))
       clear ho3 hg3 hl3 hlo d1 d3
       go_wp2
       go_roundw
       case rel=>exact ⟨m + 1,by omega,by go_num,A3,c3,by rw [HE.out,List.length_append,HO.out.2.2]; rfl,rfl,by rw [HE.out]; exact HF.out.1,HF.out.2⟩
       case measure=>simp [intOf]; omega
      ·obtain rfl:m=4:=by omega
       have HF:=hid (And.intro hown (And.intro hbw (And.intro hlen hxs)))
       clear hown hbw hlen hxs d2
       go_wp2
       go_roundw
       case rel =>
        have e:inBits ((insN ls).take k) ++ bits16 (l.take (j + 1))=xs:=by rw [HS2.out.2,←List.append_assoc]; exact HF.out.2.2.2
        exact ⟨j + 1,by omega,by go_num,A',c',by rw [e]; exact HF.out.2.2.1,rfl,by rw [e]; exact HF.out.1,HF.out.2.1⟩
       case measure=>simp [intOf]; omega
    ·obtain rfl:j=4:=by omega
     have HS2:=hid hS
     clear hS d1
     go_wp2
     go_roundw
     case rel =>
      refine ⟨k + 1,by omega,by go_num,?_⟩
      have h:=HS2.out
      rw [show l.take 4=l by rw [←HL.out.1,List.take_length],←HST.out] at h
      exact h
     case measure=>simp [intOf]; omega
  ·obtain rfl:k=5:=by omega
   have h:=hS
   rw [show (insN ls).take 5=insN ls by rw [←H5.out,←insN_length,List.take_length]] at h
   obtain ⟨A',c',hlen,rfl,hown,hbw⟩:=h
   have HF:=hid (And.intro hown hbw)
   clear hS hown hbw hlen
   go_wp2
   go_ret
   exact ⟨A',c',rfl,HF.out.1,HF.out.2⟩
end Go.Proofs.YtihbaieiempjeaaGreat
