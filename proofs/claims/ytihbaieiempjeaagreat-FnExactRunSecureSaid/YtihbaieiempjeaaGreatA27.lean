/- Lemmas of the proof: InsS, EvGS, SecE. -/
import Derived.Test.YtihbaieiempjeaaGreatA25
import Derived.Test.YtihbaieiempjeaaGreatA0
import Derived.Test.YtihbaieiempjeaaGreatA21
import Derived.Test.YtihbaieiempjeaaGreatA26
namespace Go.Proofs.YtihbaieiempjeaaGreat
open Go.RowKit
theorem sNib (A:Option Addr) (c:Nat) (xs:List Int) (w:World) (hc:Cells w w.heap.size A (ints xs)) (hn:xs.length≤1000000000) :
  Calls Tryz.prog 84 #[.slice A xs.length c] w fun e w'=>e=.returned (.bool (nbB xs))∧w=w':=by
 go_enter Tryz.func84,Tryz.ntmps84
 go_wp2
 go_loop [3] (fun i=>∃ j:Nat,j≤xs.length∧i=.int .i64 j∧nbB (xs.take j)=true) (fun i=>xs.length - (intOf i).toNat)
 case atStart=>exact ⟨0,Nat.zero_le _,rfl,rfl⟩
 case round =>
  obtain ⟨j,hj,rfl,hw⟩:=hrel
  by_cases hlt:j < xs.length
  ·obtain ⟨x,hx⟩:∃ x,xs[j]? = some x:=⟨_,List.getElem?_eq_getElem hlt⟩
   obtain ⟨b,off,rfl,hB,hcl⟩:=hc (by rw [ints_length]; omega)
   have hcell:w.cell? ⟨b,off + j,none⟩=some (.int .i64 x):=hcl j _ (ints_get hx)
   have HW:=hid hw
   have HX:=hid hx
   clear hcl hc hw hx
   cases hb:inB x 0 15
   ·go_wp2_with (go_at_call 123; refine (sWithin _ _ _ _).mono ?_; rintro e w' ⟨rfl,rfl⟩)
    go_ret
    exact ⟨ret_bool (by rw [nbB_no HX.out hb]),rfl⟩
   ·go_wp2_with (go_at_call 123; refine (sWithin _ _ _ _).mono ?_; rintro e w' ⟨rfl,rfl⟩)
    go_round
    case rel=>exact ⟨j + 1,by omega,by go_num,nbB_snoc HX.out HW.out hb⟩
    case measure=>simp [intOf]; omega
  ·obtain rfl:j=xs.length:=by omega
   rw [List.take_length] at hw
   have HW:=hid hw
   clear hw
   go_wp2
   go_ret
   exact ⟨ret_bool HW.out.symm,rfl⟩
theorem sInsOk (A:Option Addr) (c:Nat) (ls:List In1) (w:World) (hc:Cells w w.heap.size A (insW ls)) (hi:InsW w w.heap.size ls) (hn:ls.length≤1000000000) (hm:∀ q∈ls,q.2.2.length≤1000000000) :
  Calls Tryz.prog 42 #[.slice A ls.length c] w fun e w'=>e=.returned (.bool (insB (insN ls)))∧w=w':=by
 have HI:=hid hi
 have HM:=hid hm
 clear hi hm
 go_enter Tryz.func42,Tryz.ntmps42
 go_wp2
 go_loop [3] (fun i=>∃ j:Nat,j≤ls.length∧i=.int .i64 j∧lnsB ((insN ls).take j)=true) (fun i=>ls.length - (intOf i).toNat)
 case atStart=>exact ⟨0,Nat.zero_le _,rfl,rfl⟩
 case round =>
  obtain ⟨j,hj,rfl,hw⟩:=hrel
  by_cases hlt:j < ls.length
  ·obtain ⟨⟨A1,c1,xs⟩,hx⟩:∃ x,ls[j]? = some x:=⟨_,List.getElem?_eq_getElem hlt⟩
   obtain ⟨b,off,rfl,hB,hcl⟩:=hc (by rw [insW_length]; omega)
   have hcell:w.cell? ⟨b,off + j,none⟩=some (.slice A1 xs.length c1):=hcl j _ (insW_get hx)
   have HN:=hid (sNib A1 c1 xs w (HI.out _ _ hx) (HM.out _ (List.mem_of_getElem? hx)))
   have HX:=hid (insN_get hx)
   have HW:=hid hw
   have hlt':(j:Int) < (ls.length:Int):=by omega
   clear hcl hc hw hx
   obtain ⟨m,hm⟩:∃ m,xs.length=m:=⟨_,rfl⟩
   by_cases h4:m=4
   ·subst h4
    rw [hm] at hcell HN
    have HL:=hid hm
    clear hm
    cases hb:nbB xs
    ·rw [hb] at HN
     go_wp2_with (go_at_call 84; (with_reducible refine (HN.out).mono ?_); rintro e w' ⟨rfl,rfl⟩)
     go_ret
     exact ⟨ret_bool (by rw [insB_eq,lnsB_no HX.out (by unfold lnB; rw [hb,Bool.and_false]),Bool.false_and]),rfl⟩
    ·rw [hb] at HN
     go_wp2_with (go_at_call 84; (with_reducible refine (HN.out).mono ?_); rintro e w' ⟨rfl,rfl⟩)
     go_round
     case rel=>exact ⟨j + 1,by omega,by go_num,lnsB_snoc HX.out HW.out (by unfold lnB; rw [hb,Bool.and_true]; exact decide_eq_true HL.out)⟩
     case measure=>simp [intOf]; omega
   ·have HL:=hid hm
    rw [hm] at hcell
    have h4':((m:Int) == 4)=false:=by simp; omega
    have h4'':((m:Int) != 4)=true:=by simp; omega
    clear hm
    go_wp2_with fail
    go_ret
    exact ⟨ret_bool (by rw [insB_eq,lnsB_no HX.out (by unfold lnB; rw [decide_eq_false (by rw [HL.out]; exact h4),Bool.false_and]),Bool.false_and]),rfl⟩
  ·obtain rfl:j=ls.length:=by omega
   rw [show ls.length=(insN ls).length from (insN_length ls).symm,List.take_length] at hw
   have HW:=hid hw
   clear hw
   go_wp2
   go_ret
   exact ⟨ret_bool (by rw [insB_eq,HW.out,insN_length,Bool.true_and,Bool.eq_iff_iff,beq_iff_eq,decide_eq_true_eq]; omega),rfl⟩
set_option maxRecDepth 100000 in
set_option maxHeartbeats 3200000 in
theorem sInBits (A:Option Addr) (c:Nat) (ls:List In1) (w:World) (hc:Cells w w.heap.size A (insW ls)) (hi:InsW w w.heap.size ls) (hb:insB (insN ls)=true) :
  Calls Tryz.prog 20 #[.slice A ls.length c] w fun e w'=>∃ A' c',e=.returned (.slice A' 80 c')∧w'.ownsRow w.heap.size 3 1 (.slice A' 80 c') 80 (ints (inBits (insN ls)))∧Below w.heap.size w w':=by
 have hb2:=hb
 rw [insB_eq,Bool.and_eq_true,decide_eq_true_eq,insN_length] at hb2
 obtain ⟨hlb,h5⟩:=hb2
 have h4:∀ q∈ls,q.2.2.length=4∧nbB q.2.2=true:=fun q hq=>by
  have h:=List.all_eq_true.1 hlb q.2.2 (List.mem_map.2 ⟨q,hq,rfl⟩)
  unfold lnB at h
  rw [Bool.and_eq_true,decide_eq_true_eq] at h
  exact h
 have HM:=hid (fun q (hq:q∈ls)=>(show q.2.2.length≤1000000000 by have:=(h4 q hq).1; omega))
 have HI:=hid hi
 have HC:=hid hc
 have HB:=hid hb
 have H4:=hid h4
 have HT:=hid (fun k (hk:k≤5)=>inBits_take hlb k (by rw [insN_length]; omega))
 have HK:=hid (fun w' (h:Below w.heap.size w w')=>sInsOk A c ls w' ((hc.below h).more h.size) ((hi.below h (Nat.le_refl _)).more h.size) (by omega) (fun q hq=>HM.out q hq))
 rw [hb] at HK
 have H5:=hid h5
 simp only [h5] at HK
 rw [h5]
 obtain ⟨ab,ao,rfl,hB,hcl⟩:=hc (by rw [insW_length]; omega)
 clear hlb h5 hi hb h4
 go_enter Tryz.func20,Tryz.ntmps20
 go_wp2_with fail
 go_loopw [3,4,5,6] (fun o i _ _ wr=>∃ k:Nat,k≤5∧i=.int .i64 k∧BitsE w (inBits ((insN ls).take k)) (16 * k) o wr) (fun _ i _ _ _=>5 - (intOf i).toNat)
 case atStart=>exact ⟨0,Nat.zero_le _,rfl,some ⟨w.heap.size,0,none⟩,0,rfl,rfl,own_lit (size:=1) #[] 0 rfl (Nat.le_refl _) (Nat.zero_le _) rfl,(Below.refl _ _).alloc (Nat.le_refl _) _⟩
 case round =>
  obtain ⟨k,hk,rfl,hS⟩:=hrel
  by_cases hlt:k < 5
  ·obtain ⟨⟨A1,c1,l⟩,hq⟩:∃ q,ls[k]? = some q:=⟨_,List.getElem?_eq_getElem (by have:=H5.out; omega)⟩
   obtain ⟨hl4,hln⟩:=H4.out _ (List.mem_of_getElem? hq)
   dsimp only at hl4 hln
   have hst:=inBits_step (insN_get hq)
   dsimp only at hst
   obtain ⟨b',off',rfl,hB',hcl'⟩:=HI.out k _ hq (by dsimp only; rw [ints_length]; omega)
   have d0:=hcl k _ (insW_get hq)
   dsimp only at d0
   rw [hl4] at d0
   have hlt':(k:Int) < 5:=by omega
   have HD:=hid (show Below w.heap.size w wr from by obtain ⟨_,_,_,_,_,h⟩:=hS; exact h)
   have zw:=HD.out.size
   have HS:=hid hS
   have HST:=hid hst
   have d1:wr.cell? ⟨ab,ao + k,none⟩=some (.slice (some ⟨b',off',none⟩) 4 c1):=(HD.out.cell (p:=⟨ab,ao + k,none⟩) hB).trans d0
   have HCL:=hid (fun (j:Nat) (x:Int) (h:l[j]? = some x)=>hcl' j _ (ints_get h))
   have HL:=hid (And.intro hl4 hln)
   have HX:=hid (And.intro hq d0)
   clear hS hq hst hl4 hln hcl' d0
   go_wp2_with (go_at_call 42; (with_reducible refine (HK.out _ HD.out).mono ?_); rintro e w' ⟨rfl,rfl⟩)
   go_loopw [3,5,6] (fun o i _ wr=>∃ j:Nat,j≤4∧i=.int .i64 j∧BitsE w (inBits ((insN ls).take k) ++ bits16 (l.take j)) (16 * k + 4 * j) o wr) (fun _ i _ _=>4 - (intOf i).toNat)
   case atStart=>exact ⟨0,Nat.zero_le _,rfl,by rw [show bits16 (l.take 0)=[] from rfl,List.append_nil]; exact HS.out⟩
   case round =>
    obtain ⟨j,hj,rfl,hS⟩:=hrel
    by_cases hlt2:j < 4
    ·have hlt2':(j:Int) < 4:=by omega
     obtain ⟨x,hx⟩:∃ x,l[j]? = some x:=⟨_,List.getElem?_eq_getElem (by have:=HL.out.1; omega)⟩
     have hx15:=inB_iff.1 (List.all_eq_true.1 HL.out.2 x (List.mem_of_getElem? hx))
     have HS2:=hid (And.intro hS (bits16_step hx))
     have HD2:=hid (show Below w.heap.size w wr from by obtain ⟨_,_,_,_,_,h⟩:=hS; exact h)
     have zw2:=HD2.out.size
     have d2:wr.cell? ⟨b',off' + j,none⟩=some (.int .i64 x):=(HD2.out.cell (p:=⟨b',off' + j,none⟩) hB').trans (HCL.out j x hx)
     have HX2:=hid hx
     clear hS hx d1
     go_wp2_with fail
     go_loopw [3,6] (fun o i wr=>∃ m:Nat,m≤4∧i=.int .i64 m∧BitsE w (inBits ((insN ls).take k) ++ bits16 (l.take j) ++ (bits4 x).take m) (16 * k + 4 * j + m) o wr) (fun _ i _=>4 - (intOf i).toNat)
     case atStart=>exact ⟨0,Nat.zero_le _,rfl,by rw [List.take_zero,List.append_nil]; exact HS2.out.1⟩
     case round =>
      obtain ⟨m,hm,rfl,A',c',hlen,rfl,hown,hbw⟩:=hrel
      have zw3:=hbw.size
      obtain ⟨xs,hxs⟩:∃ q,inBits ((insN ls).take k) ++ bits16 (l.take j) ++ (bits4 x).take m=q:=⟨_,rfl⟩
      rw [hxs] at hlen hown
      by_cases hlt3:m < 4
      ·have hlt3':(m:Int) < 4:=by omega
       have hbt:=bit_take hx15.1 hx15.2 hlt3
       have HE:=hid (show inBits ((insN ls).take k) ++ bits16 (l.take j) ++ (bits4 x).take (m + 1)=xs ++ [bits .and .i64 (x / 2 ^ m) 1] by rw [hbt,←List.append_assoc,hxs])
       have d1:wr.cell? ⟨ab,ao + k,none⟩=some (.slice (some ⟨b',off',none⟩) 4 c1):=(hbw.cell (p:=⟨ab,ao + k,none⟩) hB).trans HX.out.2
       have d3:wr.cell? ⟨b',off' + j,none⟩=some (.int .i64 x):=(hbw.cell (p:=⟨b',off' + j,none⟩) hB').trans (HCL.out j x HX2.out)
       have HO:=hid (And.intro hown (And.intro hbw hlen))
       clear hbt hxs hown hbw hlen d2
       go_wp2_with (at_builtin; refine app_inti rfl _ _ rfl (base:=w.heap.size) (L:=xs) (v:=Value.slice A' (16 * k + 4 * j + m) c') rfl (HO.out.1.alloc _) (by simp; omega) [bits .and .i64 (x / 2 ^ m) 1] rfl rfl (top_cells _ [_] _) (by omega) ?_)
       intro A3 c3 w3 ho3 hg3 hl3
       have hlo:=own_in HO.out.1
       have HF:=hid (And.intro ho3 (gr_below (grown_alloc hg3) HO.out.2.1 (by omega) (fun p hp=>by have:=(hlo p hp).1; omega)))
       clear ho3 hg3 hl3 hlo d1 d3
       go_wp2
       go_roundw
       case rel=>exact ⟨m + 1,by omega,by go_num,A3,c3,by rw [HE.out,List.length_append,HO.out.2.2]; rfl,rfl,by rw [HE.out]; exact HF.out.1,HF.out.2⟩
       case measure=>simp [intOf]; omega
      ·obtain rfl:m=4:=by omega
       have HF:=hid (And.intro hown (And.intro hbw (And.intro hlen hxs)))
       clear hown hbw hlen hxs d2
       go_wp2
       go_roundw
       case rel =>
        have e:inBits ((insN ls).take k) ++ bits16 (l.take (j + 1))=xs:=by rw [HS2.out.2,←List.append_assoc]; exact HF.out.2.2.2
        exact ⟨j + 1,by omega,by go_num,A',c',by rw [e]; exact HF.out.2.2.1,rfl,by rw [e]; exact HF.out.1,HF.out.2.1⟩
       case measure=>simp [intOf]; omega
    ·obtain rfl:j=4:=by omega
     have HS2:=hid hS
     clear hS d1
     go_wp2
     go_roundw
     case rel =>
      refine ⟨k + 1,by omega,by go_num,?_⟩
      have h:=HS2.out
      rw [show l.take 4=l by rw [←HL.out.1,List.take_length],←HST.out] at h
      exact h
     case measure=>simp [intOf]; omega
  ·obtain rfl:k=5:=by omega
   have h:=hS
   rw [show (insN ls).take 5=insN ls by rw [←H5.out,←insN_length,List.take_length]] at h
   obtain ⟨A',c',hlen,rfl,hown,hbw⟩:=h
   have HF:=hid (And.intro hown hbw)
   clear hS hown hbw hlen
   go_wp2
   go_ret
   exact ⟨A',c',rfl,HF.out.1,HF.out.2⟩
open Go.RowKit
set_option linter.unusedVariables false in
set_option maxRecDepth 100000 in
set_option maxHeartbeats 6400000 in
theorem sEvalGarbled (G O T K D L:Option Addr) (cg co ct ck cd cl:Nat) (gs:List Gt) (os ts cs ds ls:List Int) (w:World) (hg:Cells w w.heap.size G (ints (flatG gs))) (ho:Cells w w.heap.size O (ints os)) (ht:Cells w w.heap.size T (ints ts)) (hc:Cells w w.heap.size K (ints cs)) (hd:Cells w w.heap.size D (ints ds)) (hl:Cells w w.heap.size L (ints ls)) (h:PubOk gs os ts cs ds) (hll:∀ x∈ls,labelB x=true) (hln:ls.length=80) :
  Calls Tryz.prog 133 #[.agg #[.slice G gs.length cg,.slice O os.length co],.agg #[.slice T ts.length ct,.slice K cs.length ck,.slice D ds.length cd],.slice L ls.length cl] w (GivesR w (evTo ts cs ls gs gs.length)):=by
 obtain ⟨hn6,hgv,hov⟩:=circ_parts h.c
 have HC:=hid (And.intro hg (And.intro ho (And.intro ht (And.intro hc (And.intro hd hl)))))
 have HK:=hid (fun w hg ho ht hc hd=>sPublicOk G O T K D cg co ct ck cd gs os ts cs ds w hg ho ht hc hd h)
 have HV:=hid hgv
 have HT:=hid h.t
 have HS:=hid h.k
 have HLL:=hid hll
 have htn:=Nat.le_of_eq h.tn.symm
 have hkn:=Nat.le_of_eq h.kn.symm
 have hln2:=Nat.le_of_eq hln.symm
 have hc4:=cntG_le gs 4
 have HLB:=hid (fun w hc=>sLabels L cl ls (80:Int) w hll hc (by omega))
 rw [show ((ls.length:Int) == 80)=true by rw [hln]; rfl] at HLB
 rw [show GivesR w (evTo ts cs ls gs gs.length)=fun e w'=>∃ A c,e=.returned (.tuple #[.slice A gs.length c,.bool true])∧w'.ownsRow w.heap.size 3 1 (.slice A gs.length c) gs.length (ints (evTo ts cs ls gs gs.length))∧Below w.heap.size w w' by unfold GivesR; rw [evTo_length]]
 clear hg ho ht hc hd hl h hgv hov hll hln
 go_enter Tryz.func133,Tryz.ntmps133
 go_upto_region 2 with fail
 apply wp_forget3 (b0:=w.heap.size) (b1:=w.heap.size + 1) (b2:=w.heap.size + 1 + 1) (w0:=w) (B:=w.heap.size)
 focus (exact blkBy)
 focus (exact blkBy)
 focus (exact blkBy)
 focus (exact belBy)
 intro W1 k0 k1 k2 hbW
 have c0:=k0.cell
 have f0:=k0.frozen
 have z0:=k0.lt
 have c1:=k1.cell
 have f1:=k1.frozen
 have z1:=k1.lt
 have c2:=k2.cell
 have f2:=k2.frozen
 have z2:=k2.lt
 have ho0:=own_empty (base:=w.heap.size) (size:=1) k2 (by omega)
 have hbs:=hbW.size
 have HCW:=hid (And.intro ((HC.out.1.below hbW).more hbW.size) (And.intro ((HC.out.2.1.below hbW).more hbW.size) (And.intro ((HC.out.2.2.1.below hbW).more hbW.size) (And.intro ((HC.out.2.2.2.1.below hbW).more hbW.size) (And.intro ((HC.out.2.2.2.2.1.below hbW).more hbW.size) ((HC.out.2.2.2.2.2.below hbW).more hbW.size))))))
 go_wp2_with fail
 refine Calls.mono (HK.out _ HCW.out.1 HCW.out.2.1 HCW.out.2.2.1 HCW.out.2.2.2.1 HCW.out.2.2.2.2.1) ?_
 rintro e w1 ⟨rfl,hb1⟩
 have hz10:=hb1.size
 have k1a:=k0.past hb1
 have k1b:=k1.past hb1
 clear c0 f0 z0 c1 f1 z1 c2 f2 z2
 have c0:=k1a.cell
 have f0:=k1a.frozen
 have z0:=k1a.lt
 have c1:=k1b.cell
 have f1:=k1b.frozen
 have z1:=k1b.lt
 go_wp2_with fail
 refine Calls.mono (HLB.out _ ((HCW.out.2.2.2.2.2.below hb1).more hz10)) ?_
 rintro e w' ⟨rfl,rfl⟩
 have HU:=hid (And.intro k1a (And.intro k1b (hbW.trans (hb1.mono hbW.size))))
 have HO0:=hid (own_below ho0 hb1)
 clear HCW HK HLB k0 k1 k1a k1b f0 c1 f1 z1 k2 ho0
 have hz1:=HU.out.2.2.size
 go_wp2_with fail
 go_loopw [8,9,10,11,12,13] (fun o ka kc i _ _ wr=>∃ (j k':Nat) (A':Option Addr),j≤gs.length∧i=.int .i64 (j:Int)∧ka=.int .i64 (andG (gs.take j):Int)∧kc=.int .i64 (conG (gs.take j):Int)∧o=.slice A' j k'∧wr.ownsRow w.heap.size 3 1 (.slice A' j k') j (ints (evTo ts cs ls gs j))∧Blk wr w.heap.size TS #[.slice G gs.length cg,.slice O os.length co]∧Blk wr (w.heap.size + 1) TPb #[.slice T ts.length ct,.slice K cs.length ck,.slice D ds.length cd]∧Below w.heap.size w wr) (fun _ _ _ i _ _ _=>gs.length - (intOf i).toNat)
 case atStart=>exact ⟨0,0,some ⟨w.heap.size + 2,0,none⟩,Nat.zero_le _,rfl,rfl,rfl,rfl,HO0.out,HU.out.1,HU.out.2.1,HU.out.2.2⟩
 case round =>
  obtain ⟨j,k',A',hj,rfl,rfl,rfl,rfl,hown,hx0,hp0,hbw⟩:=hrel
  have zw:=hbw.size
  have cell_x:=hx0.cell
  have lt_x:=hx0.lt
  by_cases hlt:j < gs.length
  ·obtain ⟨⟨k,x,y⟩,hx⟩:∃ s,gs[j]? = some s:=⟨_,List.getElem?_eq_getElem hlt⟩
   have hgv:=gatesB_at HV.out hx
   rw [Nat.zero_add] at hgv
   have hst:=ev_step (T:=ts) (C:=cs) (ls:=ls) hx
   have hct:=cnt_step hx
   obtain ⟨bG,og,rfl,hBg,d0,d1,d2⟩:=gt_cells HC.out.1 hbw hx
   have hxl:=evTo_length ts cs ls gs j
   have hlab:=evTo_labels (gs:=gs) HT.out HS.out HLL.out j
   obtain ⟨xs,hxs⟩:∃ c,evTo ts cs ls gs j=c:=⟨_,rfl⟩
   rw [hxs] at hown hst hxl hlab
   have hal:=(cnt_le gs j).1
   obtain ⟨a,hka⟩:∃ c,andG (gs.take j)=c:=⟨_,rfl⟩
   obtain ⟨b,hkb⟩:∃ c,conG (gs.take j)=c:=⟨_,rfl⟩
   have HLT:=hid (And.intro (fun x y (e:gs[j]? = some ⟨4,x,y⟩)=>cnt_lt4 e) (And.intro (fun x y (e:gs[j]? = some ⟨2,x,y⟩)=>cnt_lt2 e) hx))
   rw [hka,hkb] at hst hct HLT
   rw [hka] at hal ⊢
   rw [hkb]
   have hb9:b≤6000:=by have:=(cnt_le gs j).2; have:=cntG_le gs 2; omega
   have hlt':(j:Int) < (gs.length:Int):=by omega
   have hj6:(j:Int) < 6000:=by omega
   have j00:(0:Int)≤(j:Int):=by omega
   have hb1:j + 1≤1000000:=by omega
   have HLAB:=hid hlab
   have HI:=hid (And.intro hown (And.intro hx0 (And.intro hp0 hbw)))
   have HST:=hid hst
   have HCT:=hid hct
   clear hx hlab hxs hka hkb hown hp0 hx0 hbw hst hct
   have b_30:=(Below.refl wr.heap.size wr)
   have s_30:=b_30.size
   go_upto_region 10 with fail
   refine wp_forget1 (w0:=wr) (B:=wr.heap.size) (b0:=wr.heap.size) (t0:=96) (c0:=#[.int .i64 k,.int .i64 x,.int .i64 y]) ?_ ?_ ?_
   (focus exact blkcBy2)
   (focus (exact belBy))
   intro w31 q_31 hX31
   have sX31:=hX31.size
   have q_lt:=q_31.lt
   have b_31:=b_30.trans (hX31.mono (by omega))
   clear b_30 hX31
   have cell_q:=q_31.cell
   have froz_q:=q_31.frozen
   have lt_q:=q_31.lt
   have z31:=b_31.size
   have HI3:=hid (And.intro (own_below HI.out.1 b_31) (And.intro (HI.out.2.1.past b_31) (And.intro (HI.out.2.2.1.past b_31) (And.intro (HI.out.2.2.2.trans (b_31.mono zw)) q_31))))
   clear b_31 q_31 HI d0 d1 d2 cell_x lt_x
   rcases gate_kind hgv with hk | hk | hk | hk | hk
   ·obtain rfl:k=1:=hk
    have hab:=(gate_is1 hgv rfl).1
    dsimp only at hab
    obtain ⟨x,rfl⟩:=Int.eq_ofNat_of_zero_le hab.1
    have hzx:ls[x]? = some (ls.getD x 0):=by rw [List.getD_eq_getElem?_getD,List.getElem?_eq_getElem (by omega)]; rfl
    obtain ⟨bz,oz,rfl,hBz,hcz⟩:=Cells.at_ (HC.out.2.2.2.2.2.below HI3.out.2.2.2.1) (ints_get hzx)
    have fx:=hcz _ _ (ints_get hzx)
    have hxlt:(x:Int) < (ls.length:Int):=by omega
    have hx0:(0:Int)≤(x:Int):=by omega
    obtain ⟨zx,ex⟩:∃ z,ls.getD x 0=z:=⟨_,rfl⟩
    rw [ex] at fx
    have HE:=hid (HST.out.trans (show _=xs ++ [zx] by rw [←ex]; rfl))
    have HA:=hid (HCT.out.1.trans (show _=a from rfl))
    have HB:=hid (HCT.out.2.trans (show _=b from rfl))
    clear hcz hzx ex hgv hab
    go_upto_region 24 with fail
    refine wp_forget0 (w0:=w31) (B:=w31.heap.size) (by exact belBy) ?_
    intro w5 hb
    have z5:=hb.size
    have ho5:=own_below HI3.out.1 hb
    have HB5:=hid (And.intro (HI3.out.2.1.past hb) (And.intro (HI3.out.2.2.1.past hb) (HI3.out.2.2.2.1.trans (hb.mono (by omega)))))
    have hw5:=HB5.out.2.2.size
    clear hb HI3 cell_q froz_q lt_q fx hxlt hx0
    go_wp2_with (at_builtin; refine app_ints rfl _ _ rfl (base:=w.heap.size) (L:=xs) (v:=Value.slice A' j k') rfl (ho5.alloc _) (by simp; omega) [zx] rfl rfl (top_cells _ [_] _) hb1 ?_)
    intro A1 k1 w8 ho8 hg8 hl8
    have hlo:=own_in ho5
    have hgg:=grown_alloc hg8
    have HF:=hid (And.intro ho8 (And.intro (gr_blk hgg HB5.out.1 (own_ne_obj ho5 HB5.out.1 (by decide))) (And.intro (gr_blk hgg HB5.out.2.1 (own_ne_obj ho5 HB5.out.2.1 (by decide))) (gr_below hgg HB5.out.2.2 (by omega) (fun p hp=>by have:=(hlo p hp).1; omega)))))
    clear ho8 hg8 hl8 ho5 hlo hgg
    go_wp2
    go_roundw
    case rel=>exact ⟨j + 1,k1,A1,by omega,by go_num,by rw [HA.out],by rw [HB.out],rfl,by rw [HE.out]; exact HF.out.1,HF.out.2.1,HF.out.2.2.1,HF.out.2.2.2⟩
    case measure=>simp [intOf]; omega
   ·obtain rfl:k=2:=hk
    have hbl:=HLT.out.2.1 _ _ HLT.out.2.2
    have hzx:cs[b]? = some (cs.getD b 0):=by rw [List.getD_eq_getElem?_getD,List.getElem?_eq_getElem (by omega)]; rfl
    obtain ⟨bz,oz,rfl,hBz,hcz⟩:=Cells.at_ (HC.out.2.2.2.1.below HI3.out.2.2.2.1) (ints_get hzx)
    have fx:=hcz _ _ (ints_get hzx)
    have hxlt:(b:Int) < (cs.length:Int):=by omega
    have hx0:(0:Int)≤(b:Int):=by omega
    obtain ⟨zx,ex⟩:∃ z,cs.getD b 0=z:=⟨_,rfl⟩
    rw [ex] at fx
    have hp1:=HI3.out.2.2.1
    have cell_p:=hp1.cell
    have lt_p:=hp1.lt
    have HE:=hid (HST.out.trans (show _=xs ++ [zx] by rw [←ex]; rfl))
    have HA:=hid (HCT.out.1.trans (show _=a from rfl))
    have HB:=hid (HCT.out.2.trans (show _=b + 1 from rfl))
    clear hcz hzx ex hgv hbl hp1
    go_upto_region 24 with fail
    refine wp_forget0 (w0:=w31) (B:=w31.heap.size) (by exact belBy) ?_
    intro w5 hb
    have z5:=hb.size
    have ho5:=own_below HI3.out.1 hb
    have HB5:=hid (And.intro (HI3.out.2.1.past hb) (And.intro (HI3.out.2.2.1.past hb) (HI3.out.2.2.2.1.trans (hb.mono (by omega)))))
    have hw5:=HB5.out.2.2.size
    clear hb HI3 cell_q froz_q lt_q fx hxlt hx0 cell_p lt_p
    go_wp2_with (at_builtin; refine app_ints rfl _ _ rfl (base:=w.heap.size) (L:=xs) (v:=Value.slice A' j k') rfl (ho5.alloc _) (by simp; omega) [zx] rfl rfl (top_cells _ [_] _) hb1 ?_)
    intro A1 k1 w8 ho8 hg8 hl8
    have hlo:=own_in ho5
    have hgg:=grown_alloc hg8
    have HF:=hid (And.intro ho8 (And.intro (gr_blk hgg HB5.out.1 (own_ne_obj ho5 HB5.out.1 (by decide))) (And.intro (gr_blk hgg HB5.out.2.1 (own_ne_obj ho5 HB5.out.2.1 (by decide))) (gr_below hgg HB5.out.2.2 (by omega) (fun p hp=>by have:=(hlo p hp).1; omega)))))
    clear ho8 hg8 hl8 ho5 hlo hgg
    go_wp2
    go_roundw
    case rel=>exact ⟨j + 1,k1,A1,by omega,by go_num,by rw [HA.out],by rw [HB.out]; go_num,rfl,by rw [HE.out]; exact HF.out.1,HF.out.2.1,HF.out.2.2.1,HF.out.2.2.2⟩
    case measure=>simp [intOf]; omega
   ·obtain rfl:k=3:=hk
    have hab:=gate_is34 hgv (.inl rfl)
    dsimp only at hab
    obtain ⟨x,rfl⟩:=Int.eq_ofNat_of_zero_le hab.1.1
    obtain ⟨y,rfl⟩:=Int.eq_ofNat_of_zero_le hab.2.1
    have hzx:xs[x]? = some (xs.getD x 0):=by rw [List.getD_eq_getElem?_getD,List.getElem?_eq_getElem (by omega)]; rfl
    have hzy:xs[y]? = some (xs.getD y 0):=by rw [List.getD_eq_getElem?_getD,List.getElem?_eq_getElem (by omega)]; rfl
    obtain ⟨bz,oz,rfl,hBz,hcz⟩:=Cells.at_ (Cells.of_own HI3.out.1) (ints_get hzx)
    have fx:=hcz _ _ (ints_get hzx)
    have hlx:=getD_label HLAB.out x
    have hxlt:(x:Int) < (j:Int):=by omega
    have hx0:(0:Int)≤(x:Int):=by omega
    obtain ⟨zx,ex⟩:∃ z,xs.getD x 0=z:=⟨_,rfl⟩
    rw [ex] at fx hlx
    have fy:=hcz _ _ (ints_get hzy)
    have hly:=getD_label HLAB.out y
    have hylt:(y:Int) < (j:Int):=by omega
    have hy0:(0:Int)≤(y:Int):=by omega
    obtain ⟨zy,ey⟩:∃ z,xs.getD y 0=z:=⟨_,rfl⟩
    rw [ey] at fy hly
    clear hcz hzx hzy
    have q0:=cell_q 0
    have q1:=cell_q 1
    have q2:=cell_q 2
    dsimp at q0 q1 q2
    have HE:=hid (HST.out.trans (show _=xs ++ [xorI zx zy] by rw [←ex,←ey]; rfl))
    have HA:=hid (HCT.out.1.trans (show _=a from rfl))
    have HB:=hid (HCT.out.2.trans (show _=b from rfl))
    clear hgv hab ex ey
    go_upto_region 18 with fail
    go_quiet (fail)
    go_upto_region 24 with fail
    refine wp_forget0 (w0:=w31) (B:=w31.heap.size) (by exact belBy) ?_
    intro w5 hb
    have z5:=hb.size
    have ho5:=own_below HI3.out.1 hb
    have HB5:=hid (And.intro (HI3.out.2.1.past hb) (And.intro (HI3.out.2.2.1.past hb) (HI3.out.2.2.2.1.trans (hb.mono (by omega)))))
    have hw5:=HB5.out.2.2.size
    clear hb HI3 cell_q froz_q lt_q fx fy hlx hly hxlt hylt hx0 hy0 q0 q1 q2
    go_wp2_with (at_builtin; refine app_ints rfl _ _ rfl (base:=w.heap.size) (L:=xs) (v:=Value.slice (some ⟨bz,oz,none⟩) j k') rfl (ho5.alloc _) (by simp; omega) [xorI zx zy] rfl rfl (top_cells _ [_] _) hb1 ?_)
    intro A1 k1 w8 ho8 hg8 hl8
    have hlo:=own_in ho5
    have hgg:=grown_alloc hg8
    have HF:=hid (And.intro ho8 (And.intro (gr_blk hgg HB5.out.1 (own_ne_obj ho5 HB5.out.1 (by decide))) (And.intro (gr_blk hgg HB5.out.2.1 (own_ne_obj ho5 HB5.out.2.1 (by decide))) (gr_below hgg HB5.out.2.2 (by omega) (fun p hp=>by have:=(hlo p hp).1; omega)))))
    clear ho8 hg8 hl8 ho5 hlo hgg
    go_wp2
    go_roundw
    case rel=>exact ⟨j + 1,k1,A1,by omega,by go_num,by rw [HA.out],by rw [HB.out],rfl,by rw [HE.out]; exact HF.out.1,HF.out.2.1,HF.out.2.2.1,HF.out.2.2.2⟩
    case measure=>simp [intOf]; omega
   ·obtain rfl:k=4:=hk
    have hab:=gate_is34 hgv (.inr rfl)
    dsimp only at hab
    obtain ⟨x,rfl⟩:=Int.eq_ofNat_of_zero_le hab.1.1
    obtain ⟨y,rfl⟩:=Int.eq_ofNat_of_zero_le hab.2.1
    have hal4:=HLT.out.1 _ _ HLT.out.2.2
    have hzx:xs[x]? = some (xs.getD x 0):=by rw [List.getD_eq_getElem?_getD,List.getElem?_eq_getElem (by omega)]; rfl
    have hzy:xs[y]? = some (xs.getD y 0):=by rw [List.getD_eq_getElem?_getD,List.getElem?_eq_getElem (by omega)]; rfl
    obtain ⟨bz,oz,rfl,hBz,hcz⟩:=Cells.at_ (Cells.of_own HI3.out.1) (ints_get hzx)
    have fx:=hcz _ _ (ints_get hzx)
    have hlx:=getD_label HLAB.out x
    have hxlt:(x:Int) < (j:Int):=by omega
    have hx0:(0:Int)≤(x:Int):=by omega
    obtain ⟨zx,ex⟩:∃ z,xs.getD x 0=z:=⟨_,rfl⟩
    rw [ex] at fx hlx
    have fy:=hcz _ _ (ints_get hzy)
    have hly:=getD_label HLAB.out y
    have hylt:(y:Int) < (j:Int):=by omega
    have hy0:(0:Int)≤(y:Int):=by omega
    obtain ⟨zy,ey⟩:∃ z,xs.getD y 0=z:=⟨_,rfl⟩
    rw [ey] at fy hly
    clear hcz hzx hzy
    have ht0:ts[2 * a]? = some (ts.getD (2 * a) 0):=by rw [List.getD_eq_getElem?_getD,List.getElem?_eq_getElem (by omega)]; rfl
    have ht1:ts[2 * a + 1]? = some (ts.getD (2 * a + 1) 0):=by rw [List.getD_eq_getElem?_getD,List.getElem?_eq_getElem (by omega)]; rfl
    obtain ⟨bt,ot,rfl,hBt,hct⟩:=Cells.at_ (HC.out.2.2.1.below HI3.out.2.2.2.1) (ints_get ht0)
    have fg:=hct _ _ (ints_get ht0)
    have fe:=hct _ _ (ints_get ht1)
    have hlg:=getD_label HT.out (2 * a)
    have hle:=getD_label HT.out (2 * a + 1)
    obtain ⟨zg,eg⟩:∃ z,ts.getD (2 * a) 0=z:=⟨_,rfl⟩
    obtain ⟨ze,ee⟩:∃ z,ts.getD (2 * a + 1) 0=z:=⟨_,rfl⟩
    rw [eg] at fg hlg
    rw [ee] at fe hle
    have t0:(2 * (a:Int)).toNat=2 * a:=by omega
    have t1:(2 * (a:Int) + 1).toNat=2 * a + 1:=by omega
    have a00:(0:Int)≤(a:Int):=by omega
    have a6:(a:Int)≤6000:=by omega
    have b00:(0:Int)≤2 * (a:Int):=by omega
    have b01:(0:Int)≤2 * (a:Int) + 1:=by omega
    have b10:2 * (a:Int) < (ts.length:Int):=by omega
    have b11:2 * (a:Int) + 1 < (ts.length:Int):=by omega
    have KA:=hid (fun w=>sEvalAnd zx zy zg ze j w hlx hly hlg hle (by omega))
    have HE:=hid (HST.out.trans (show _=xs ++ [evA zx zy zg ze (j:Int)] by rw [←ex,←ey,←eg,←ee]; rfl))
    have HA:=hid (HCT.out.1.trans (show _=a + 1 from rfl))
    have HB:=hid (HCT.out.2.trans (show _=b from rfl))
    clear hgv hab ex ey eg ee hct ht0 ht1 hlx hly hlg hle hal4
    have q0:=cell_q 0
    dsimp at q0
    go_upto_region 22 with fail
    refine wp_forget0 (w0:=w31) (B:=w31.heap.size) (by exact belBy) ?_
    intro w32 hb32
    have z32:=hb32.size
    have HI4:=hid (And.intro (own_below HI3.out.1 hb32) (And.intro (HI3.out.2.1.past hb32) (And.intro (HI3.out.2.2.1.past hb32) (And.intro (HI3.out.2.2.2.1.trans (hb32.mono (by omega))) (HI3.out.2.2.2.2.past hb32)))))
    have HFX:=hid (And.intro ((hb32.cell (p:=⟨bz,oz + x,none⟩) (by dsimp only; omega)).trans fx) (And.intro ((hb32.cell (p:=⟨bz,oz + y,none⟩) (by dsimp only; omega)).trans fy) (And.intro ((hb32.cell (p:=⟨bt,ot + 2 * a,none⟩) (by dsimp only; omega)).trans fg) ((hb32.cell (p:=⟨bt,ot + (2 * a + 1),none⟩) (by dsimp only; omega)).trans fe))))
    clear fx fy fg fe q0 hb32 cell_q froz_q lt_q HI3
    have qq:=fun (x:Later w32) (o:Nat)=>(HI4.out.2.2.2.2.past x.below).cell o
    have qp:=fun (x:Later w32) (o:Nat)=>(HI4.out.2.2.1.past x.below).cell o
    have fx:=fun (X:Later w32)=>(X.below.cell (p:=⟨bz,oz + x,none⟩) (by dsimp only; omega)).trans HFX.out.1
    have fy:=fun (X:Later w32)=>(X.below.cell (p:=⟨bz,oz + y,none⟩) (by dsimp only; omega)).trans HFX.out.2.1
    have fg:=fun (X:Later w32)=>(X.below.cell (p:=⟨bt,ot + 2 * a,none⟩) (by dsimp only; omega)).trans HFX.out.2.2.1
    have fe:=fun (X:Later w32)=>(X.below.cell (p:=⟨bt,ot + (2 * a + 1),none⟩) (by dsimp only; omega)).trans HFX.out.2.2.2
    refine wp_region_later (by kernel_rfl) (by kernel_rfl) ?_
    repeat (go_big_quiet_step ((go_at_call 178; with_reducible exact Calls.later_same (KA.out _))))
    refine wpQuiet_nil ?_
    rintro _ ⟨⟨w41,hb41⟩,rfl⟩
    try dsimp only
    have z41:=hb41.size
    clear qq qp fx fy fg fe HFX
    go_upto_region 24 with fail
    refine wp_forget0 (w0:=w32) (B:=w32.heap.size) (by exact belBy) ?_
    intro w5 hb
    have z5:=hb.size
    have ho5:=own_below HI4.out.1 hb
    have HB5:=hid (And.intro (HI4.out.2.1.past hb) (And.intro (HI4.out.2.2.1.past hb) (HI4.out.2.2.2.1.trans (hb.mono (by omega)))))
    have hw5:=HB5.out.2.2.size
    clear hb HI4 hxlt hylt hx0 hy0
    go_wp2_with (at_builtin; refine app_ints rfl _ _ rfl (base:=w.heap.size) (L:=xs) (v:=Value.slice (some ⟨bz,oz,none⟩) j k') rfl (ho5.alloc _) (by simp; omega) [evA zx zy zg ze (j:Int)] rfl rfl (top_cells _ [_] _) hb1 ?_)
    intro A1 k1 w8 ho8 hg8 hl8
    have hlo:=own_in ho5
    have hgg:=grown_alloc hg8
    have HF:=hid (And.intro ho8 (And.intro (gr_blk hgg HB5.out.1 (own_ne_obj ho5 HB5.out.1 (by decide))) (And.intro (gr_blk hgg HB5.out.2.1 (own_ne_obj ho5 HB5.out.2.1 (by decide))) (gr_below hgg HB5.out.2.2 (by omega) (fun p hp=>by have:=(hlo p hp).1; omega)))))
    clear ho8 hg8 hl8 ho5 hlo hgg
    go_wp2
    go_roundw
    case rel=>exact ⟨j + 1,k1,A1,by omega,by go_num,by rw [HA.out]; go_num,by rw [HB.out],rfl,by rw [HE.out]; exact HF.out.1,HF.out.2.1,HF.out.2.2.1,HF.out.2.2.2⟩
    case measure=>simp [intOf]; omega
   ·obtain rfl:k=5:=hk
    have hab:=(gate_is5 hgv rfl).1
    dsimp only at hab
    obtain ⟨x,rfl⟩:=Int.eq_ofNat_of_zero_le hab.1
    have hzx:xs[x]? = some (xs.getD x 0):=by rw [List.getD_eq_getElem?_getD,List.getElem?_eq_getElem (by omega)]; rfl
    obtain ⟨bz,oz,rfl,hBz,hcz⟩:=Cells.at_ (Cells.of_own HI3.out.1) (ints_get hzx)
    have fx:=hcz _ _ (ints_get hzx)
    have hlx:=getD_label HLAB.out x
    have hxlt:(x:Int) < (j:Int):=by omega
    have hx0:(0:Int)≤(x:Int):=by omega
    obtain ⟨zx,ex⟩:∃ z,xs.getD x 0=z:=⟨_,rfl⟩
    rw [ex] at fx hlx
    clear hcz hzx
    have HE:=hid (HST.out.trans (show _=xs ++ [zx] by rw [←ex]; rfl))
    have HA:=hid (HCT.out.1.trans (show _=a from rfl))
    have HB:=hid (HCT.out.2.trans (show _=b from rfl))
    clear hgv hab ex
    go_upto_region 24 with fail
    refine wp_forget0 (w0:=w31) (B:=w31.heap.size) (by exact belBy) ?_
    intro w5 hb
    have z5:=hb.size
    have ho5:=own_below HI3.out.1 hb
    have HB5:=hid (And.intro (HI3.out.2.1.past hb) (And.intro (HI3.out.2.2.1.past hb) (HI3.out.2.2.2.1.trans (hb.mono (by omega)))))
    have hw5:=HB5.out.2.2.size
    clear hb HI3 cell_q froz_q lt_q fx hlx hxlt hx0
    go_wp2_with (at_builtin; refine app_ints rfl _ _ rfl (base:=w.heap.size) (L:=xs) (v:=Value.slice (some ⟨bz,oz,none⟩) j k') rfl (ho5.alloc _) (by simp; omega) [zx] rfl rfl (top_cells _ [_] _) hb1 ?_)
    intro A1 k1 w8 ho8 hg8 hl8
    have hlo:=own_in ho5
    have hgg:=grown_alloc hg8
    have HF:=hid (And.intro ho8 (And.intro (gr_blk hgg HB5.out.1 (own_ne_obj ho5 HB5.out.1 (by decide))) (And.intro (gr_blk hgg HB5.out.2.1 (own_ne_obj ho5 HB5.out.2.1 (by decide))) (gr_below hgg HB5.out.2.2 (by omega) (fun p hp=>by have:=(hlo p hp).1; omega)))))
    clear ho8 hg8 hl8 ho5 hlo hgg
    go_wp2
    go_roundw
    case rel=>exact ⟨j + 1,k1,A1,by omega,by go_num,by rw [HA.out],by rw [HB.out],rfl,by rw [HE.out]; exact HF.out.1,HF.out.2.1,HF.out.2.2.1,HF.out.2.2.2⟩
    case measure=>simp [intOf]; omega
  ·obtain rfl:j=gs.length:=by omega
   have HI:=hid (And.intro hown hbw)
   clear hown hbw hp0 hx0
   go_wp2
   ((try simp only [Exit.inBlock,Exit.then]); apply bodyPost_ret0; focus ((try simp only [results,Tryz.results133]); (try go_simp); (try rfl)))
   exact ⟨A',k',rfl,HI.out.1,HI.out.2⟩
open Go.RowKit
def GivesE (w:World) (gs:List Gt) (os ts cs ds ws:List Int) (e:Ending) (w':World):Prop :=
 ∃ G cg O co T ct K ck D cd W cw,e=.returned (.tuple #[.agg #[.slice G gs.length cg,.slice O os.length co],.agg #[.slice T ts.length ct,.slice K cs.length ck,.slice D ds.length cd],.slice W ws.length cw])∧w'.ownsRow w.heap.size TG 3 (.slice G gs.length cg) gs.length (ints (flatG gs)) ∧
  w'.ownsRow w.heap.size 3 1 (.slice O os.length co) os.length (ints os)∧w'.ownsRow w.heap.size 3 1 (.slice T ts.length ct) ts.length (ints ts)∧w'.ownsRow w.heap.size 3 1 (.slice K cs.length ck) cs.length (ints cs)∧w'.ownsRow w.heap.size 3 1 (.slice D ds.length cd) ds.length (ints ds) ∧
  w'.ownsRow w.heap.size 3 1 (.slice W ws.length cw) ws.length (ints ws)∧Below w.heap.size w w'
set_option linter.unusedVariables false in
set_option maxRecDepth 100000 in
set_option maxHeartbeats 6400000 in
theorem sL38Eval (A:Option Addr) (c:Nat) (L:List St) (Q:Option Addr) (cl:Nat) (B:List Int) (s a:Int) (w:World) (hc:Cells w w.heap.size A (ints (flatS L))) (hn:L.length≤1000000000) (hl:Cells w w.heap.size Q (ints (labsTo s a B 80))) (h1:tapeOkB s a=true) (h2:a≤800000) (hu:unrB L=true) :
  Calls Tryz.prog 68 #[.slice A L.length c,.agg #[.int .i64 s,.int .i64 a],.slice Q (labsTo s a B 80).length cl] w (GivesE w (cirG L) (cirO L) (garTs s a (cirG L)) (garCs s a (cirG L)) (decL (garZs s a (cirG L)) (cirO L)) (wireL s a (cirG L) (labsTo s a B 80))):=by
 have hcv:=compL_valid hu
 have hol:=comp_outs L
 have hcir:=cir_valid hu
 obtain ⟨m,hom,hm9⟩:=cirO_len hu
 have hom6:(cirO L).length≤1000000:=by omega
 have hlab:=labs_labels s a B 80
 have hlen:=labsTo_length s a B 80
 have hgk:=gar_ok s a hcir hom6
 have hpk:=pub_ok s a hcir hom6
 have hwl:=wire_labels s a hcir hom6 hlab
 have hwn:=wireL_length s a (cirG L) (labsTo s a B 80)
 have HO:=hid (fun G O cg co w hg ho=>(show Calls Tryz.prog 19 #[.agg #[.slice G (compL L).g.length cg,.slice O (compL L).o.length co]] w (GivesK w (cirG L) (cirO L)) from sOptimize G O cg co (compL L).g (compL L).o w hg ho hcv hol))
 have HGA:=hid (fun G O cg co w hg ho=>(show Calls Tryz.prog 73 #[.agg #[.slice G (cirG L).length cg,.slice O (cirO L).length co],.agg #[.int .i64 s,.int .i64 a]] w (GivesG w (deltaI s a) (garZs s a (cirG L)) (garTs s a (cirG L))) from sGarble G O cg co (cirG L) (cirO L) s a w hg ho hcir hom6 h1 (by omega)))
 have HP:=hid (fun G O Z T cg co cz ct w hg ho hz ht=>(show Calls Tryz.prog 132 #[.agg #[.slice G (cirG L).length cg,.slice O (cirO L).length co],.agg #[.int .i64 (deltaI s a),.slice Z (garZs s a (cirG L)).length cz,.slice T (garTs s a (cirG L)).length ct]] w (GivesP w (garTs s a (cirG L)) (garCs s a (cirG L)) (decL (garZs s a (cirG L)) (cirO L))) from sPublicOf G O Z T cg co cz ct (cirG L) (cirO L) (deltaI s a) (garZs s a (cirG L)) (garTs s a (cirG L)) w hg ho hz ht hgk))
 have HE:=hid (fun G O T K D Q cg co ct ck cd cl w hg ho ht hc hd hl=>(show Calls Tryz.prog 133 #[.agg #[.slice G (cirG L).length cg,.slice O (cirO L).length co],.agg #[.slice T (garTs s a (cirG L)).length ct,.slice K (garCs s a (cirG L)).length ck,.slice D (decL (garZs s a (cirG L)) (cirO L)).length cd],.slice Q (labsTo s a B 80).length cl] w (GivesR w (wireL s a (cirG L) (labsTo s a B 80))) from sEvalGarbled G O T K D Q cg co ct ck cd cl (cirG L) (cirO L) _ _ _ (labsTo s a B 80) w hg ho ht hc hd hl hpk hlab hlen))
 have HC:=hid (fun w hc=>sCompile A c L w hc hn)
 rw [hu] at HC
 obtain ⟨g0,hg0⟩:∃ x,(compL L).g=x:=⟨_,rfl⟩
 obtain ⟨o0,ho0⟩:∃ x,(compL L).o=x:=⟨_,rfl⟩
 obtain ⟨gs,hgs⟩:∃ x,cirG L=x:=⟨_,rfl⟩
 obtain ⟨os,hos⟩:∃ x,cirO L=x:=⟨_,rfl⟩
 obtain ⟨d,hd⟩:∃ x,deltaI s a=x:=⟨_,rfl⟩
 rw [hg0,ho0,hgs,hos] at HO
 rw [hgs,hos,hd] at HGA
 rw [hgs,hos,hd] at HP
 rw [hgs,hos] at HE
 rw [hgs,hos]
 rw [hg0,ho0] at HC
 obtain ⟨zs,hzs⟩:∃ x,garZs s a gs=x:=⟨_,rfl⟩
 obtain ⟨ts,hts⟩:∃ x,garTs s a gs=x:=⟨_,rfl⟩
 obtain ⟨cs,hcs⟩:∃ x,garCs s a gs=x:=⟨_,rfl⟩
 rw [hzs,hts] at HGA
 rw [hzs,hts,hcs] at HP
 rw [hts,hcs,hzs] at HE
 obtain ⟨ds,hds⟩:∃ x,decL zs os=x:=⟨_,rfl⟩
 obtain ⟨LS,hLS⟩:∃ x,labsTo s a B 80=x:=⟨_,rfl⟩
 obtain ⟨ws,hws⟩:∃ x,wireL s a gs LS=x:=⟨_,rfl⟩
 rw [hzs,hts,hcs,hds]
 rw [hds] at HP
 rw [hds,hLS,hws] at HE
 rw [hLS] at hl ⊢
 rw [hws]
 clear hcv hol hcir hom hm9 hom6 hlab hlen hgk hpk hwl hwn hg0 ho0 hgs hos hd hzs hts hcs hds hLS hws hu h1 h2 hn
 go_enter Tryz.func68,Tryz.ntmps68
 have b_0:=(Below.refl w.heap.size w)
 have s_0:=b_0.size
 have xs_0:=hc
 clear hc
 have lb_0:=hl
 clear hl
 go_upto_region 1 with fail
 refine wp_forget3 (w0:=w) (B:=w.heap.size) (b0:=w.heap.size) (t0:=27) (c0:=#[.int .i64 s,.int .i64 a]) (b1:=w.heap.size + 1) (t1:=40) (c1:=#[.slice none 0 0,.slice none 0 0]) (b2:=w.heap.size + 2) (t2:=80) (c2:=#[.slice none 0 0,.slice none 0 0,.slice none 0 0]) ?_ ?_ ?_ ?_ ?_
 (focus exact blkcBy2)
 (focus exact blkcBy2)
 (focus exact blkcBy2)
 (focus (exact belBy))
 intro w1 t_1 r1_1 r2_1 hX1
 have sX1:=hX1.size
 have t_lt:=t_1.lt
 have r1_lt:=r1_1.lt
 have r2_lt:=r2_1.lt
 have b_1:=b_0.trans (hX1.mono (by omega))
 have xs_1:=cells_below xs_0 hX1 (by omega)
 have lb_1:=cells_below lb_0 hX1 (by omega)
 clear xs_0 lb_0 b_0 hX1
 have cell_t:=t_1.cell
 have froz_t:=t_1.frozen
 have lt_t:=t_1.lt
 have cell_r1:=r1_1.cell
 have froz_r1:=r1_1.frozen
 have lt_r1:=r1_1.lt
 have cell_r2:=r2_1.cell
 have froz_r2:=r2_1.frozen
 have lt_r2:=r2_1.lt
 go_wp2_with fail
 refine calls_forget0 (W:=w1) ?_ ?_
 (focus (exact belBy))
 intro X2 hX2
 have sX2:=hX2.size
 refine (HC.out _ ((cells_below xs_1 hX2 (by omega)).more (by omega))).mono ?_
 rintro e w2 ⟨G0,cg0,O0,co0,rfl,g0r_2,o0r_2,hb2⟩
 have s2:=hb2.size
 have hT2:=hX2.trans (hb2.mono sX2)
 have b_2:=b_1.trans (hT2.mono (by omega))
 have xs_2:=cells_below xs_1 hT2 (by omega)
 have lb_2:=cells_below lb_1 hT2 (by omega)
 have t_2:=Blk.past hT2 t_1
 have r1_2:=Blk.past hT2 r1_1
 have r2_2:=Blk.past hT2 r2_1
 have g0r_in:=own_in g0r_2
 have o0r_in:=own_in o0r_2
 clear xs_1 lb_1 t_1 r1_1 r2_1 b_1 cell_t froz_t lt_t cell_r1 froz_r1 lt_r1 cell_r2 froz_r2 lt_r2 hX2 hT2 hb2
 have cell_t:=t_2.cell
 have froz_t:=t_2.frozen
 have lt_t:=t_2.lt
 have cell_r1:=r1_2.cell
 have froz_r1:=r1_2.frozen
 have lt_r1:=r1_2.lt
 have cell_r2:=r2_2.cell
 have froz_r2:=r2_2.frozen
 have lt_r2:=r2_2.lt
 go_upto_region 2 with fail
 refine wp_forget1 (w0:=w2) (B:=w2.heap.size) (b0:=w2.heap.size) (t0:=40) (c0:=#[.slice G0 g0.length cg0,.slice O0 o0.length co0]) ?_ ?_ ?_
 (focus exact blkcBy2)
 (focus (exact belBy))
 intro w3 x_3 hX3
 have sX3:=hX3.size
 have x_lt:=x_3.lt
 have b_3:=b_2.trans (hX3.mono (by omega))
 have xs_3:=cells_below xs_2 hX3 (by omega)
 have lb_3:=cells_below lb_2 hX3 (by omega)
 have g0r_3:=own_below g0r_2 hX3
 have o0r_3:=own_below o0r_2 hX3
 have t_3:=Blk.past hX3 t_2
 have r1_3:=Blk.past hX3 r1_2
 have r2_3:=Blk.past hX3 r2_2
 clear xs_2 lb_2 g0r_2 o0r_2 t_2 r1_2 r2_2 b_2 cell_t froz_t lt_t cell_r1 froz_r1 lt_r1 cell_r2 froz_r2 lt_r2 hX3
 have cell_t:=t_3.cell
 have froz_t:=t_3.frozen
 have lt_t:=t_3.lt
 have cell_r1:=r1_3.cell
 have froz_r1:=r1_3.frozen
 have lt_r1:=r1_3.lt
 have cell_r2:=r2_3.cell
 have froz_r2:=r2_3.frozen
 have lt_r2:=r2_3.lt
 have cell_x:=x_3.cell
 have froz_x:=x_3.frozen
 have lt_x:=x_3.lt
 go_wp2_with fail
 refine calls_forget0 (W:=w3) ?_ ?_
 (focus (exact belBy))
 intro X4 hX4
 have sX4:=hX4.size
 refine (HO.out _ _ _ _ _ (Cells.of_own (own_below g0r_3 hX4)) (Cells.of_own (own_below o0r_3 hX4))).mono ?_
 rintro e w4 ⟨G1,cg1,O1,co1,rfl,g1_4,o1_4,hb4⟩
 have s4:=hb4.size
 have hT4:=hX4.trans (hb4.mono sX4)
 have b_4:=b_3.trans (hT4.mono (by omega))
 have xs_4:=cells_below xs_3 hT4 (by omega)
 have lb_4:=cells_below lb_3 hT4 (by omega)
 have g0r_4:=own_below g0r_3 hT4
 have o0r_4:=own_below o0r_3 hT4
 have t_4:=Blk.past hT4 t_3
 have r1_4:=Blk.past hT4 r1_3
 have r2_4:=Blk.past hT4 r2_3
 have x_4:=Blk.past hT4 x_3
 have g1_in:=own_in g1_4
 have o1_in:=own_in o1_4
 clear xs_3 lb_3 g0r_3 o0r_3 t_3 r1_3 r2_3 x_3 b_3 cell_t froz_t lt_t cell_r1 froz_r1 lt_r1 cell_r2 froz_r2 lt_r2 cell_x froz_x lt_x hX4 hT4 hb4
 have cell_t:=t_4.cell
 have froz_t:=t_4.frozen
 have lt_t:=t_4.lt
 have cell_r1:=r1_4.cell
 have froz_r1:=r1_4.frozen
 have lt_r1:=r1_4.lt
 have cell_r2:=r2_4.cell
 have froz_r2:=r2_4.frozen
 have lt_r2:=r2_4.lt
 have cell_x:=x_4.cell
 have froz_x:=x_4.frozen
 have lt_x:=x_4.lt
 go_upto_region 3 with fail
 refine wp_touch1 (w0:=w4) (L:=[w2.heap.size]) (b0:=w2.heap.size) (t0:=40) (c0:=#[.slice G1 gs.length cg1,.slice O1 os.length co1]) ?_ ?_ ?_
 (focus exact blkcBy2)
 (focus (exact tchBy))
 intro w5 x_5 hX5
 have sX5:=hX5.size
 have b_5:=hX5.below b_4 (by first | (simp; done) | (simp; omega))
 have xs_5:=cells_touch hX5 xs_4 (by omega) (by first | (simp; done) | (simp; omega))
 have lb_5:=cells_touch hX5 lb_4 (by omega) (by first | (simp; done) | (simp; omega))
 have g0r_5:=own_touch' hX5 g0r_4 (fun q hq=>by have h1:=g0r_in q hq; (try have e0:=own_ne_obj g0r_4 x_4 (by decide) q hq); simp; omega)
 have o0r_5:=own_touch' hX5 o0r_4 (fun q hq=>by have h1:=o0r_in q hq; (try have e0:=own_ne_obj o0r_4 x_4 (by decide) q hq); simp; omega)
 have g1_5:=own_touch' hX5 g1_4 (fun q hq=>by have h1:=g1_in q hq; (try have e0:=own_ne_obj g1_4 x_4 (by decide) q hq); simp; omega)
 have o1_5:=own_touch' hX5 o1_4 (fun q hq=>by have h1:=o1_in q hq; (try have e0:=own_ne_obj o1_4 x_4 (by decide) q hq); simp; omega)
 have t_5:=Blk.touch hX5 t_4 (by first | (simp; done) | (simp; omega))
 have r1_5:=Blk.touch hX5 r1_4 (by first | (simp; done) | (simp; omega))
 have r2_5:=Blk.touch hX5 r2_4 (by first | (simp; done) | (simp; omega))
 clear xs_4 lb_4 g0r_4 o0r_4 g1_4 o1_4 t_4 r1_4 r2_4 x_4 b_4 cell_t froz_t lt_t cell_r1 froz_r1 lt_r1 cell_r2 froz_r2 lt_r2 cell_x froz_x lt_x hX5
 have cell_t:=t_5.cell
 have froz_t:=t_5.frozen
 have lt_t:=t_5.lt
 have cell_r1:=r1_5.cell
 have froz_r1:=r1_5.frozen
 have lt_r1:=r1_5.lt
 have cell_r2:=r2_5.cell
 have froz_r2:=r2_5.frozen
 have lt_r2:=r2_5.lt
 have cell_x:=x_5.cell
 have froz_x:=x_5.frozen
 have lt_x:=x_5.lt
 go_wp2_with fail
 refine calls_forget0 (W:=w5) ?_ ?_
 (focus (exact belBy))
 intro X6 hX6
 have sX6:=hX6.size
 refine (HGA.out _ _ _ _ _ (Cells.of_own (own_below g1_5 hX6)) (Cells.of_own (own_below o1_5 hX6))).mono ?_
 rintro e w6 ⟨Z,cz,T,ct,rfl,zz_6,tt_6,hb6⟩
 have s6:=hb6.size
 have hT6:=hX6.trans (hb6.mono sX6)
 have b_6:=b_5.trans (hT6.mono (by omega))
 have xs_6:=cells_below xs_5 hT6 (by omega)
 have lb_6:=cells_below lb_5 hT6 (by omega)
 have g0r_6:=own_below g0r_5 hT6
 have o0r_6:=own_below o0r_5 hT6
 have g1_6:=own_below g1_5 hT6
 have o1_6:=own_below o1_5 hT6
 have t_6:=Blk.past hT6 t_5
 have r1_6:=Blk.past hT6 r1_5
 have r2_6:=Blk.past hT6 r2_5
 have x_6:=Blk.past hT6 x_5
 have zz_in:=own_in zz_6
 have tt_in:=own_in tt_6
 clear xs_5 lb_5 g0r_5 o0r_5 g1_5 o1_5 t_5 r1_5 r2_5 x_5 b_5 cell_t froz_t lt_t cell_r1 froz_r1 lt_r1 cell_r2 froz_r2 lt_r2 cell_x froz_x lt_x hX6 hT6 hb6
 have cell_t:=t_6.cell
 have froz_t:=t_6.frozen
 have lt_t:=t_6.lt
 have cell_r1:=r1_6.cell
 have froz_r1:=r1_6.frozen
 have lt_r1:=r1_6.lt
 have cell_r2:=r2_6.cell
 have froz_r2:=r2_6.frozen
 have lt_r2:=r2_6.lt
 have cell_x:=x_6.cell
 have froz_x:=x_6.frozen
 have lt_x:=x_6.lt
 go_upto_region 4 with fail
 refine wp_forget1 (w0:=w6) (B:=w6.heap.size) (b0:=w6.heap.size) (t0:=76) (c0:=#[.int .i64 d,.slice Z zs.length cz,.slice T ts.length ct]) ?_ ?_ ?_
 (focus exact blkcBy2)
 (focus (exact belBy))
 intro w7 ga_7 hX7
 have sX7:=hX7.size
 have ga_lt:=ga_7.lt
 have b_7:=b_6.trans (hX7.mono (by omega))
 have xs_7:=cells_below xs_6 hX7 (by omega)
 have lb_7:=cells_below lb_6 hX7 (by omega)
 have g0r_7:=own_below g0r_6 hX7
 have o0r_7:=own_below o0r_6 hX7
 have g1_7:=own_below g1_6 hX7
 have o1_7:=own_below o1_6 hX7
 have zz_7:=own_below zz_6 hX7
 have tt_7:=own_below tt_6 hX7
 have t_7:=Blk.past hX7 t_6
 have r1_7:=Blk.past hX7 r1_6
 have r2_7:=Blk.past hX7 r2_6
 have x_7:=Blk.past hX7 x_6
 clear xs_6 lb_6 g0r_6 o0r_6 g1_6 o1_6 zz_6 tt_6 t_6 r1_6 r2_6 x_6 b_6 cell_t froz_t lt_t cell_r1 froz_r1 lt_r1 cell_r2 froz_r2 lt_r2 cell_x froz_x lt_x hX7
 have cell_t:=t_7.cell
 have froz_t:=t_7.frozen
 have lt_t:=t_7.lt
 have cell_r1:=r1_7.cell
 have froz_r1:=r1_7.frozen
 have lt_r1:=r1_7.lt
 have cell_r2:=r2_7.cell
 have froz_r2:=r2_7.frozen
 have lt_r2:=r2_7.lt
 have cell_x:=x_7.cell
 have froz_x:=x_7.frozen
 have lt_x:=x_7.lt
 have cell_ga:=ga_7.cell
 have froz_ga:=ga_7.frozen
 have lt_ga:=ga_7.lt
 go_wp2_with fail
 refine calls_forget0 (W:=w7) ?_ ?_
 (focus (exact belBy))
 intro X8 hX8
 have sX8:=hX8.size
 refine (HP.out _ _ _ _ _ _ _ _ _ (Cells.of_own (own_below g1_7 hX8)) (Cells.of_own (own_below o1_7 hX8)) (Cells.of_own (own_below zz_7 hX8)) (own_weak (own_below tt_7 hX8) (Nat.zero_le _))).mono ?_
 rintro e w8 ⟨T2,ct2,K,ck,D,cd,rfl,t2_8,kk_8,dd_8,hb8⟩
 have s8:=hb8.size
 have hT8:=hX8.trans (hb8.mono sX8)
 have b_8:=b_7.trans (hT8.mono (by omega))
 have xs_8:=cells_below xs_7 hT8 (by omega)
 have lb_8:=cells_below lb_7 hT8 (by omega)
 have g0r_8:=own_below g0r_7 hT8
 have o0r_8:=own_below o0r_7 hT8
 have g1_8:=own_below g1_7 hT8
 have o1_8:=own_below o1_7 hT8
 have zz_8:=own_below zz_7 hT8
 have tt_8:=own_below tt_7 hT8
 have t_8:=Blk.past hT8 t_7
 have r1_8:=Blk.past hT8 r1_7
 have r2_8:=Blk.past hT8 r2_7
 have x_8:=Blk.past hT8 x_7
 have ga_8:=Blk.past hT8 ga_7
 have t2_in:=own_in t2_8
 have kk_in:=own_in kk_8
 have dd_in:=own_in dd_8
 clear xs_7 lb_7 g0r_7 o0r_7 g1_7 o1_7 zz_7 tt_7 t_7 r1_7 r2_7 x_7 ga_7 b_7 cell_t froz_t lt_t cell_r1 froz_r1 lt_r1 cell_r2 froz_r2 lt_r2 cell_x froz_x lt_x cell_ga froz_ga lt_ga hX8 hT8 hb8
 have cell_t:=t_8.cell
 have froz_t:=t_8.frozen
 have lt_t:=t_8.lt
 have cell_r1:=r1_8.cell
 have froz_r1:=r1_8.frozen
 have lt_r1:=r1_8.lt
 have cell_r2:=r2_8.cell
 have froz_r2:=r2_8.frozen
 have lt_r2:=r2_8.lt
 have cell_x:=x_8.cell
 have froz_x:=x_8.frozen
 have lt_x:=x_8.lt
 have cell_ga:=ga_8.cell
 have froz_ga:=ga_8.frozen
 have lt_ga:=ga_8.lt
 go_upto_region 5 with fail
 refine wp_forget1 (w0:=w8) (B:=w8.heap.size) (b0:=w8.heap.size) (t0:=80) (c0:=#[.slice T2 ts.length ct2,.slice K cs.length ck,.slice D ds.length cd]) ?_ ?_ ?_
 (focus exact blkcBy2)
 (focus (exact belBy))
 intro w9 pu_9 hX9
 have sX9:=hX9.size
 have pu_lt:=pu_9.lt
 have b_9:=b_8.trans (hX9.mono (by omega))
 have xs_9:=cells_below xs_8 hX9 (by omega)
 have lb_9:=cells_below lb_8 hX9 (by omega)
 have g0r_9:=own_below g0r_8 hX9
 have o0r_9:=own_below o0r_8 hX9
 have g1_9:=own_below g1_8 hX9
 have o1_9:=own_below o1_8 hX9
 have zz_9:=own_below zz_8 hX9
 have tt_9:=own_below tt_8 hX9
 have t2_9:=own_below t2_8 hX9
 have kk_9:=own_below kk_8 hX9
 have dd_9:=own_below dd_8 hX9
 have t_9:=Blk.past hX9 t_8
 have r1_9:=Blk.past hX9 r1_8
 have r2_9:=Blk.past hX9 r2_8
 have x_9:=Blk.past hX9 x_8
 have ga_9:=Blk.past hX9 ga_8
 clear xs_8 lb_8 g0r_8 o0r_8 g1_8 o1_8 zz_8 tt_8 t2_8 kk_8 dd_8 t_8 r1_8 r2_8 x_8 ga_8 b_8 cell_t froz_t lt_t cell_r1 froz_r1 lt_r1 cell_r2 froz_r2 lt_r2 cell_x froz_x lt_x cell_ga froz_ga lt_ga hX9
 have cell_t:=t_9.cell
 have froz_t:=t_9.frozen
 have lt_t:=t_9.lt
 have cell_r1:=r1_9.cell
 have froz_r1:=r1_9.frozen
 have lt_r1:=r1_9.lt
 have cell_r2:=r2_9.cell
 have froz_r2:=r2_9.frozen
 have lt_r2:=r2_9.lt
 have cell_x:=x_9.cell
 have froz_x:=x_9.frozen
 have lt_x:=x_9.lt
 have cell_ga:=ga_9.cell
 have froz_ga:=ga_9.frozen
 have lt_ga:=ga_9.lt
 have cell_pu:=pu_9.cell
 have froz_pu:=pu_9.frozen
 have lt_pu:=pu_9.lt
 go_wp2_with fail
 refine calls_forget0 (W:=w9) ?_ ?_
 (focus (exact belBy))
 intro X10 hX10
 have sX10:=hX10.size
 refine (HE.out _ _ _ _ _ _ _ _ _ _ _ _ _ (Cells.of_own (own_below g1_9 hX10)) (Cells.of_own (own_below o1_9 hX10)) (Cells.of_own (own_below t2_9 hX10)) (Cells.of_own (own_below kk_9 hX10)) (Cells.of_own (own_below dd_9 hX10)) ((cells_below lb_9 hX10 (by omega)).more (by omega))).mono ?_
 rintro e w10 ⟨A5,c5,rfl,wr5_10,hb10⟩
 have s10:=hb10.size
 have hT10:=hX10.trans (hb10.mono sX10)
 have b_10:=b_9.trans (hT10.mono (by omega))
 have xs_10:=cells_below xs_9 hT10 (by omega)
 have lb_10:=cells_below lb_9 hT10 (by omega)
 have g0r_10:=own_below g0r_9 hT10
 have o0r_10:=own_below o0r_9 hT10
 have g1_10:=own_below g1_9 hT10
 have o1_10:=own_below o1_9 hT10
 have zz_10:=own_below zz_9 hT10
 have tt_10:=own_below tt_9 hT10
 have t2_10:=own_below t2_9 hT10
 have kk_10:=own_below kk_9 hT10
 have dd_10:=own_below dd_9 hT10
 have t_10:=Blk.past hT10 t_9
 have r1_10:=Blk.past hT10 r1_9
 have r2_10:=Blk.past hT10 r2_9
 have x_10:=Blk.past hT10 x_9
 have ga_10:=Blk.past hT10 ga_9
 have pu_10:=Blk.past hT10 pu_9
 have wr5_in:=own_in wr5_10
 clear xs_9 lb_9 g0r_9 o0r_9 g1_9 o1_9 zz_9 tt_9 t2_9 kk_9 dd_9 t_9 r1_9 r2_9 x_9 ga_9 pu_9 b_9 cell_t froz_t lt_t cell_r1 froz_r1 lt_r1 cell_r2 froz_r2 lt_r2 cell_x froz_x lt_x cell_ga froz_ga lt_ga cell_pu froz_pu lt_pu hX10 hT10 hb10
 have cell_t:=t_10.cell
 have froz_t:=t_10.frozen
 have lt_t:=t_10.lt
 have cell_r1:=r1_10.cell
 have froz_r1:=r1_10.frozen
 have lt_r1:=r1_10.lt
 have cell_r2:=r2_10.cell
 have froz_r2:=r2_10.frozen
 have lt_r2:=r2_10.lt
 have cell_x:=x_10.cell
 have froz_x:=x_10.frozen
 have lt_x:=x_10.lt
 have cell_ga:=ga_10.cell
 have froz_ga:=ga_10.frozen
 have lt_ga:=ga_10.lt
 have cell_pu:=pu_10.cell
 have froz_pu:=pu_10.frozen
 have lt_pu:=pu_10.lt
 have HR:=hid (And.intro (own_weak g1_10 (show w.heap.size + 3≤_ by omega)) (And.intro (own_weak o1_10 (show w.heap.size + 3≤_ by omega)) (And.intro (own_weak t2_10 (show w.heap.size + 3≤_ by omega)) (And.intro (own_weak kk_10 (show w.heap.size + 3≤_ by omega)) (And.intro (own_weak dd_10 (show w.heap.size + 3≤_ by omega)) (And.intro (own_weak wr5_10 (show w.heap.size + 3≤_ by omega)) b_10))))))
 clear g0r_10 o0r_10 g1_10 o1_10 zz_10 tt_10 t2_10 kk_10 dd_10 wr5_10 xs_10 lb_10 b_10
 go_upto_region 6 with fail
 go_region
 all_goals
  go_wp2
  ((try simp only [Exit.inBlock,Exit.then]); apply bodyPost_ret0; focus ((try simp only [results,Tryz.results68]); (try go_simp); (try rfl)))
  have hr:=HR.out
  have hz:=hr.2.2.2.2.2.2.size
  refine ⟨G1,cg1,O1,co1,T2,ct2,K,ck,D,cd,A5,c5,rfl,?_,?_,?_,?_,?_,?_,?_⟩
  ·exact own_weak (own_touch' (L:=[w.heap.size + 1,w.heap.size + 1 + 1]) (w:=w10) (by exact tchBy) hr.1 (fun q hq=>by have:=(own_in hr.1 q hq).1; simp; omega)) (by omega)
  ·exact own_weak (own_touch' (L:=[w.heap.size + 1,w.heap.size + 1 + 1]) (w:=w10) (by exact tchBy) hr.2.1 (fun q hq=>by have:=(own_in hr.2.1 q hq).1; simp; omega)) (by omega)
  ·exact own_weak (own_touch' (L:=[w.heap.size + 1,w.heap.size + 1 + 1]) (w:=w10) (by exact tchBy) hr.2.2.1 (fun q hq=>by have:=(own_in hr.2.2.1 q hq).1; simp; omega)) (by omega)
  ·exact own_weak (own_touch' (L:=[w.heap.size + 1,w.heap.size + 1 + 1]) (w:=w10) (by exact tchBy) hr.2.2.2.1 (fun q hq=>by have:=(own_in hr.2.2.2.1 q hq).1; simp; omega)) (by omega)
  ·exact own_weak (own_touch' (L:=[w.heap.size + 1,w.heap.size + 1 + 1]) (w:=w10) (by exact tchBy) hr.2.2.2.2.1 (fun q hq=>by have:=(own_in hr.2.2.2.2.1 q hq).1; simp; omega)) (by omega)
  ·exact own_weak (own_touch' (L:=[w.heap.size + 1,w.heap.size + 1 + 1]) (w:=w10) (by exact tchBy) hr.2.2.2.2.2.1 (fun q hq=>by have:=(own_in hr.2.2.2.2.2.1 q hq).1; simp; omega)) (by omega)
  ·exact Touch.below' (L:=[w.heap.size + 1,w.heap.size + 1 + 1]) (w:=w10) (by exact tchBy) hr.2.2.2.2.2.2 (fun i hi=>by simp at hi; omega) hz
end Go.Proofs.YtihbaieiempjeaaGreat
