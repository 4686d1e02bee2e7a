/- Lemmas of the proof: Trans4, SecX, InsI, InsL, VwI. -/
import Derived.Test.YtihbaieiempjeaaGreatB0
import Derived.Test.YtihbaieiempjeaaGreatB22
import Derived.Test.YtihbaieiempjeaaGreatB1
import Derived.Outline
import Derived.Deep.RegionHeld3
import Derived.Test.YtihbaieiempjeaaGreatB21
import Derived.Test.YtihbaieiempjeaaGreatB14
import Derived.Test.YtihbaieiempjeaaGreatB6
namespace Go.Proofs.YtihbaieiempjeaaGreat
open Go.RowKit
def GivesPair (w:World) (xs:List Int) (b:Bool) (e:Ending) (w':World):Prop :=
 ∃ A c,e=.returned (.tuple #[.slice A xs.length c,.bool b])∧w'.ownsRow w.heap.size 3 1 (.slice A xs.length c) xs.length (ints xs)∧Below w.heap.size w w'
open Go.RowKit
theorem o4_take {L:List St} (hL:∀ s∈L,stmtB s=true∧s.o≠12∧s.o≠13):∀ k,k≤L.length→∃ m,(compC (L.take k)).o.length=4 * m
 | 0,_=>⟨0,rfl⟩
 | k + 1,h=>by
  obtain ⟨m,hm⟩:=o4_take hL k (by omega)
  have hok:=ok_take hL k (by omega)
  rw [List.take_succ_eq_append_getElem (by omega),compC_snoc]
  unfold stepC
  split
  ·have hin:=stmt_in (hL _ (List.getElem_mem (by omega:k < L.length))).1
   obtain ⟨_,ha⟩:=hok.reg hin.2.2.1
   exact ⟨m + 1,by rw [List.length_append,word_len ha]; omega⟩
  ·exact ⟨m,hm⟩
theorem cirO_len {L:List St} (hu:unrB L=true):∃ m,(cirO L).length=4 * m∧m≤120:=by
 have e:(cirO L).length=(compL L).o.length:=by
  unfold cirO optC
  rw [prun_outs,simp_outs]
 rw [e,compL_yes hu]
 obtain ⟨m,hm⟩:=o4_take (unrL_ok L) (unrL L).length (Nat.le_refl _)
 rw [List.take_length] at hm
 have h:=(comp_ok L).oh
 have h2:=unrL_len L
 exact ⟨m,hm,by omega⟩
open Go.RowKit
theorem iNib (A:Option Addr) (c:Nat) (xs:List Int) (w:World) (hc:Cells w w.heap.size A (ints xs)) (hn:xs.length≤1000000000) :
  Calls Tryz.prog 92 #[.slice A xs.length c] w fun e w'=>e=.returned (.bool (nbB xs))∧w=w':=by
 go_enter Tryz.func92,Tryz.ntmps92
 go_wp2
 go_loop [4,7] (fun _ i=>∃ j:Nat,j≤xs.length∧i=.int .i64 j∧nbB (xs.take j)=true) (fun _ i=>xs.length - (intOf i).toNat)
 case atStart=>exact ⟨0,Nat.zero_le _,rfl,rfl⟩
 case round =>
  obtain ⟨j,hj,rfl,hw⟩:=hrel
  by_cases hlt:j < xs.length
  ·obtain ⟨x,hx⟩:∃ x,xs[j]? = some x:=⟨_,List.getElem?_eq_getElem hlt⟩
   obtain ⟨b,off,rfl,hB,hcl⟩:=hc (by rw [ints_length]; omega)
   have hcell:w.cell? ⟨b,off + j,none⟩=some (.int .i64 x):=hcl j _ (ints_get hx)
   have HW:=hid hw
   have HX:=hid hx
   clear hcl hc hw hx
   cases hb:inB x 0 15
   ·go_wp2_with (go_at_call 56; refine (iWithin _ _ _ _).mono ?_; rintro e w' ⟨rfl,rfl⟩)
    go_ret
    exact ⟨ret_bool (by rw [nbB_no HX.out hb]),rfl⟩
   ·go_wp2_with (go_at_call 56; refine (iWithin _ _ _ _).mono ?_; rintro e w' ⟨rfl,rfl⟩)
    go_round
    case rel=>exact ⟨j + 1,by omega,by go_num,nbB_snoc HX.out HW.out hb⟩
    case measure=>simp [intOf]; omega
  ·obtain rfl:j=xs.length:=by omega
   rw [List.take_length] at hw
   have HW:=hid hw
   clear hw
   go_wp2
   go_ret
   exact ⟨ret_bool HW.out.symm,rfl⟩
theorem iInsOk (A:Option Addr) (c:Nat) (ls:List In1) (w:World) (hc:Cells w w.heap.size A (insW ls)) (hi:InsW w w.heap.size ls) (hn:ls.length≤1000000000) (hm:∀ q∈ls,q.2.2.length≤1000000000) :
  Calls Tryz.prog 46 #[.slice A ls.length c] w fun e w'=>e=.returned (.bool (insB (insN ls)))∧w=w':=by
 have HI:=hid hi
 have HM:=hid hm
 clear hi hm
 go_enter Tryz.func46,Tryz.ntmps46
 go_wp2
 go_loop [4,7] (fun _ i=>∃ j:Nat,j≤ls.length∧i=.int .i64 j∧lnsB ((insN ls).take j)=true) (fun _ i=>ls.length - (intOf i).toNat)
 case atStart=>exact ⟨0,Nat.zero_le _,rfl,rfl⟩
 case round =>
  obtain ⟨j,hj,rfl,hw⟩:=hrel
  by_cases hlt:j < ls.length
  ·obtain ⟨⟨A1,c1,xs⟩,hx⟩:∃ x,ls[j]? = some x:=⟨_,List.getElem?_eq_getElem hlt⟩
   obtain ⟨b,off,rfl,hB,hcl⟩:=hc (by rw [insW_length]; omega)
   have hcell:w.cell? ⟨b,off + j,none⟩=some (.slice A1 xs.length c1):=hcl j _ (insW_get hx)
   have HN:=hid (iNib A1 c1 xs w (HI.out _ _ hx) (HM.out _ (List.mem_of_getElem? hx)))
   have HX:=hid (insN_get hx)
   have HW:=hid hw
   have hlt':(j:Int) < (ls.length:Int):=by omega
   clear hcl hc hw hx
   obtain ⟨m,hm⟩:∃ m,xs.length=m:=⟨_,rfl⟩
   by_cases h4:m=4
   ·subst h4
    rw [hm] at hcell HN
    have HL:=hid hm
    clear hm
    cases hb:nbB xs
    ·rw [hb] at HN
     go_wp2_with (go_at_call 92; (with_reducible refine (HN.out).mono ?_); rintro e w' ⟨rfl,rfl⟩)
     go_ret
     exact ⟨ret_bool (by rw [insB_eq,lnsB_no HX.out (by unfold lnB; rw [hb,Bool.and_false]),Bool.false_and]),rfl⟩
    ·rw [hb] at HN
     go_wp2_with (go_at_call 92; (with_reducible refine (HN.out).mono ?_); rintro e w' ⟨rfl,rfl⟩)
     go_round
     case rel=>exact ⟨j + 1,by omega,by go_num,lnsB_snoc HX.out HW.out (by unfold lnB; rw [hb,Bool.and_true]; exact decide_eq_true HL.out)⟩
     case measure=>simp [intOf]; omega
   ·have HL:=hid hm
    rw [hm] at hcell
    have h4':((m:Int) == 4)=false:=by simp; omega
    have h4'':((m:Int) != 4)=true:=by simp; omega
    clear hm
    go_wp2_with fail
    go_ret
    exact ⟨ret_bool (by rw [insB_eq,lnsB_no HX.out (by unfold lnB; rw [decide_eq_false (by rw [HL.out]; exact h4),Bool.false_and]),Bool.false_and]),rfl⟩
  ·obtain rfl:j=ls.length:=by omega
   rw [show ls.length=(insN ls).length from (insN_length ls).symm,List.take_length] at hw
   have HW:=hid hw
   clear hw
   go_wp2
   go_ret
   exact ⟨ret_bool (by rw [insB_eq,HW.out,insN_length,Bool.true_and,Bool.eq_iff_iff,beq_iff_eq,decide_eq_true_eq]; omega),rfl⟩
set_option maxRecDepth 100000 in
set_option maxHeartbeats 3200000 in
theorem iInBits (A:Option Addr) (c:Nat) (ls:List In1) (w:World) (hc:Cells w w.heap.size A (insW ls)) (hi:InsW w w.heap.size ls) (hb:insB (insN ls)=true) :
  Calls Tryz.prog 48 #[.slice A ls.length c] w fun e w'=>∃ A' c',e=.returned (.slice A' 80 c')∧w'.ownsRow w.heap.size 3 1 (.slice A' 80 c') 80 (ints (inBits (insN ls)))∧Below w.heap.size w w':=by
 have hb2:=hb
 rw [insB_eq,Bool.and_eq_true,decide_eq_true_eq,insN_length] at hb2
 obtain ⟨hlb,h5⟩:=hb2
 have h4:∀ q∈ls,q.2.2.length=4∧nbB q.2.2=true:=fun q hq=>by
  have h:=List.all_eq_true.1 hlb q.2.2 (List.mem_map.2 ⟨q,hq,rfl⟩)
  unfold lnB at h
  rw [Bool.and_eq_true,decide_eq_true_eq] at h
  exact h
 have HM:=hid (fun q (hq:q∈ls)=>(show q.2.2.length≤1000000000 by have:=(h4 q hq).1; omega))
 have HI:=hid hi
 have HC:=hid hc
 have HB:=hid hb
 have H4:=hid h4
 have HT:=hid (fun k (hk:k≤5)=>inBits_take hlb k (by rw [insN_length]; omega))
 have HK:=hid (iInsOk A c ls w hc hi (by omega) (fun q hq=>HM.out q hq))
 rw [hb] at HK
 have H5:=hid h5
 simp only [h5] at HK
 rw [h5]
 obtain ⟨ab,ao,rfl,hB,hcl⟩:=hc (by rw [insW_length]; omega)
 clear hlb h5 hi hb h4
 go_enter Tryz.func48,Tryz.ntmps48
 go_wp2_with (go_at_call 46; (with_reducible refine (HK.out).mono ?_); rintro e w' ⟨rfl,rfl⟩)
 go_loopw [3,5,7,8,15,21] (fun o _ _ _ i _ wr=>∃ k:Nat,k≤5∧i=.int .i64 k∧BitsE w (inBits ((insN ls).take k)) (16 * k) o wr) (fun _ _ _ _ i _ _=>5 - (intOf i).toNat)
 case atStart=>exact ⟨0,Nat.zero_le _,rfl,some ⟨w.heap.size,0,none⟩,0,rfl,rfl,own_lit (size:=1) #[] 0 rfl (Nat.le_refl _) (Nat.zero_le _) rfl,(Below.refl _ _).alloc (Nat.le_refl _) _⟩
 case round =>
  obtain ⟨k,hk,rfl,hS⟩:=hrel
  by_cases hlt:k < 5
  ·obtain ⟨⟨A1,c1,l⟩,hq⟩:∃ q,ls[k]? = some q:=⟨_,List.getElem?_eq_getElem (by have:=H5.out; omega)⟩
   obtain ⟨hl4,hln⟩:=H4.out _ (List.mem_of_getElem? hq)
   dsimp only at hl4 hln
   have hst:=inBits_step (insN_get hq)
   dsimp only at hst
   obtain ⟨b',off',rfl,hB',hcl'⟩:=HI.out k _ hq (by dsimp only; rw [ints_length]; omega)
   have d0:=hcl k _ (insW_get hq)
   dsimp only at d0
   rw [hl4] at d0
   have hlt':(k:Int) < 5:=by omega
   have HD:=hid (show Below w.heap.size w wr from by obtain ⟨_,_,_,_,_,h⟩:=hS; exact h)
   have zw:=HD.out.size
   have HS:=hid hS
   have HST:=hid hst
   have d1:wr.cell? ⟨ab,ao + k,none⟩=some (.slice (some ⟨b',off',none⟩) 4 c1):=(HD.out.cell (p:=⟨ab,ao + k,none⟩) hB).trans d0
   have HCL:=hid (fun (j:Nat) (x:Int) (h:l[j]? = some x)=>hcl' j _ (ints_get h))
   have HL:=hid (And.intro hl4 hln)
   have HX:=hid (And.intro hq d0)
   clear hS hq hst hl4 hln hcl' d0
   go_wp2_with fail
   go_loopw [3,7,8,21] (fun o _ _ i wr=>∃ j:Nat,j≤4∧i=.int .i64 j∧BitsE w (inBits ((insN ls).take k) ++ bits16 (l.take j)) (16 * k + 4 * j) o wr) (fun _ _ _ i _=>4 - (intOf i).toNat)
   case atStart=>exact ⟨0,Nat.zero_le _,rfl,by rw [show bits16 (l.take 0)=[] from rfl,List.append_nil]; exact HS.out⟩
   case round =>
    obtain ⟨j,hj,rfl,hS⟩:=hrel
    by_cases hlt2:j < 4
    ·have hlt2':(j:Int) < 4:=by omega
     obtain ⟨x,hx⟩:∃ x,l[j]? = some x:=⟨_,List.getElem?_eq_getElem (by have:=HL.out.1; omega)⟩
     have hx15:=inB_iff.1 (List.all_eq_true.1 HL.out.2 x (List.mem_of_getElem? hx))
     have HS2:=hid (And.intro hS (bits16_step hx))
     have HD2:=hid (show Below w.heap.size w wr from by obtain ⟨_,_,_,_,_,h⟩:=hS; exact h)
     have zw2:=HD2.out.size
     have d2:wr.cell? ⟨b',off' + j,none⟩=some (.int .i64 x):=(HD2.out.cell (p:=⟨b',off' + j,none⟩) hB').trans (HCL.out j x hx)
     have HX2:=hid hx
     clear hS hx d1
     go_wp2_with fail
     go_loopw [3,8] (fun o i wr=>∃ m:Nat,m≤4∧i=.int .i64 m∧BitsE w (inBits ((insN ls).take k) ++ bits16 (l.take j) ++ (bits4 x).take m) (16 * k + 4 * j + m) o wr) (fun _ i _=>4 - (intOf i).toNat)
     case atStart=>exact ⟨0,Nat.zero_le _,rfl,by rw [List.take_zero,List.append_nil]; exact HS2.out.1⟩
     case round =>
      obtain ⟨m,hm,rfl,A',c',hlen,rfl,hown,hbw⟩:=hrel
      have zw3:=hbw.size
      obtain ⟨xs,hxs⟩:∃ q,inBits ((insN ls).take k) ++ bits16 (l.take j) ++ (bits4 x).take m=q:=⟨_,rfl⟩
      rw [hxs] at hlen hown
      by_cases hlt3:m < 4
      ·have hlt3':(m:Int) < 4:=by omega
       have hbt:=bit_take hx15.1 hx15.2 hlt3
       have HE:=hid (show inBits ((insN ls).take k) ++ bits16 (l.take j) ++ (bits4 x).take (m + 1)=xs ++ [bits .and .i64 (x / 2 ^ m) 1] by rw [hbt,←List.append_assoc,hxs])
       have d1:wr.cell? ⟨ab,ao + k,none⟩=some (.slice (some ⟨b',off',none⟩) 4 c1):=(hbw.cell (p:=⟨ab,ao + k,none⟩) hB).trans HX.out.2
       have d3:wr.cell? ⟨b',off' + j,none⟩=some (.int .i64 x):=(hbw.cell (p:=⟨b',off' + j,none⟩) hB').trans (HCL.out j x HX2.out)
       have HO:=hid (And.intro hown (And.intro hbw hlen))
       clear hbt hxs hown hbw hlen d2
       go_wp2_with (at_builtin; refine app_inti rfl _ _ rfl (base:=w.heap.size) (L:=xs) (v:=Value.slice A' (16 * k + 4 * j + m) c') rfl (HO.out.1.alloc _) (by simp; omega) [bits .and .i64 (x / 2 ^ m) 1] rfl rfl (top_cells _ [_] _) (by omega) ?_)
       intro A3 c3 w3 ho3 hg3 hl3
       have hlo:=own_in HO.out.1
       have HF:=hid (And.intro ho3 (gr_below (grown_alloc hg3) HO.out.2.1 (by omega) (fun p hp=>by have:=(hlo p hp).1; omega)))
       clear ho3 hg3 hl3 hlo d1 d3
       go_wp2
       go_roundw
       case rel=>exact ⟨m + 1,by omega,by go_num,A3,c3,by rw [HE.out,List.length_append,HO.out.2.2]; rfl,rfl,by rw [HE.out]; exact HF.out.1,HF.out.2⟩
       case measure=>simp [intOf]; omega
      ·obtain rfl:m=4:=by omega
       have HF:=hid (And.intro hown (And.intro hbw (And.intro hlen hxs)))
       clear hown hbw hlen hxs d2
       go_wp2
       go_roundw
       case rel =>
        have e:inBits ((insN ls).take k) ++ bits16 (l.take (j + 1))=xs:=by rw [HS2.out.2,←List.append_assoc]; exact HF.out.2.2.2
        exact ⟨j + 1,by omega,by go_num,A',c',by rw [e]; exact HF.out.2.2.1,rfl,by rw [e]; exact HF.out.1,HF.out.2.1⟩
       case measure=>simp [intOf]; omega
    ·obtain rfl:j=4:=by omega
     have HS2:=hid hS
     clear hS d1
     go_wp2
     go_roundw
     case rel =>
      refine ⟨k + 1,by omega,by go_num,?_⟩
      have h:=HS2.out
      rw [show l.take 4=l by rw [←HL.out.1,List.take_length],←HST.out] at h
      exact h
     case measure=>simp [intOf]; omega
  ·obtain rfl:k=5:=by omega
   have h:=hS
   rw [show (insN ls).take 5=insN ls by rw [←H5.out,←insN_length,List.take_length]] at h
   obtain ⟨A',c',hlen,rfl,hown,hbw⟩:=h
   have HF:=hid (And.intro hown hbw)
   clear hS hown hbw hlen
   go_wp2
   go_ret
   exact ⟨A',c',rfl,HF.out.1,HF.out.2⟩
open Go.RowKit
theorem infoIntsL:(Tryz.prog.info? 30).map (fun i=>(i.zero,i.size,i.bytes))=some (some (.slice none 0 0),1,24):=by kernel_rfl
def InsR (w:World) (base:Nat) (ls:List In1):Prop:=∀ (i:Nat) (q:In1),ls[i]? = some q→w.ownsRow base 3 1 (.slice q.1 q.2.2.length q.2.1) q.2.2.length (ints q.2.2)
def InsA (ls:List In1):Prop:=∀ (i j:Nat) (q p:In1),ls[i]? = some q→ls[j]? = some p→q.1=p.1→i=j
theorem InsR.cells {w:World} {base:Nat} {ls:List In1} (h:InsR w base ls):InsW w w.heap.size ls:=fun i q hq=>Cells.of_own (h i q hq)
theorem InsR.below {w w':World} {base:Nat} {ls:List In1} (h:InsR w base ls) (hb:Below w.heap.size w w'):InsR w' base ls:=fun i q hq=>own_below (h i q hq) hb
def totL (ls:List In1):Nat:=(ls.map fun q=>q.2.2.length).sum
theorem totL_step {ls:List In1} {j:Nat} {q:In1} (h:ls[j]? = some q):totL (ls.take (j + 1))=totL (ls.take j) + q.2.2.length:=by
 unfold totL
 rw [take_any h]
 simp
theorem totL_take (ls:List In1) (j:Nat):totL (ls.take j)≤totL ls:=by
 have h:ls.take j ++ ls.drop j=ls:=List.take_append_drop j ls
 have e:totL ls=totL (ls.take j) + totL (ls.drop j):=by
  unfold totL
  rw [←List.sum_append,←List.map_append,h]
 omega
theorem totL_mem {ls:List In1} {q:In1} (h:q∈ls):q.2.2.length≤totL ls:=by
 unfold totL
 induction ls with
 | nil=>cases h
 | cons a l ih =>
  rw [List.map_cons,List.sum_cons]
  rcases List.mem_cons.1 h with rfl | h
  ·omega
  ·have:=ih h
   omega
theorem totL_of {ls ds:List In1} (h:insN ds=insN ls):totL ds=totL ls:=by
 have e:∀ l:List In1,totL l=((insN l).map List.length).sum:=fun l=>by unfold totL insN; rw [List.map_map]; rfl
 rw [e,e,h]
theorem szIntSS_any (A:Option Addr) (c:Nat) (ls:List In1) (left:Int) (w:World) (hc:Cells w w.heap.size A (insW ls)) (hn:ls.length≤9223372036854775807) (hm:∀ q∈ls,q.2.2.length≤9223372036854775807) (h0:0≤left) (h1:left≤1048576) :
  Calls Tryz.prog 22 #[.slice A ls.length c,.int .i64 left] w fun e w'=>e=.returned (.int .i64 (pick (decide (left - ((ls.length + totL ls:Nat):Int) < 0)) (-1) (left - ((ls.length + totL ls:Nat):Int))))∧w=w':=by
 have HM:=hid hm
 clear hm
 by_cases hlt:left - (ls.length:Int) < 0
 ·rw [decide_eq_true (by omega),pick_yes]
  go_enter Tryz.func22,Tryz.ntmps22
  go_wp2
  go_ret
  exact ⟨rfl,rfl⟩
 ·have hl6:ls.length≤1048576:=by omega
  go_enter Tryz.func22,Tryz.ntmps22
  go_wp2
  go_loop [1,5] (fun v i=>∃ (j:Nat) (r:Int),j≤ls.length∧i=.int .i64 j∧v=.int .i64 r∧0≤r∧r=left - (ls.length:Int) - (totL (ls.take j):Int)) (fun _ i=>ls.length - (intOf i).toNat)
  case atStart=>exact ⟨0,left - ls.length,Nat.zero_le _,rfl,rfl,by omega,by simp [totL]⟩
  case round =>
   obtain ⟨j,r,hj,rfl,rfl,hr0,hr⟩:=hrel
   by_cases hlt2:j < ls.length
   ·obtain ⟨⟨A1,c1,xs⟩,hx⟩:∃ x,ls[j]? = some x:=⟨_,List.getElem?_eq_getElem hlt2⟩
    obtain ⟨b,off,rfl,hB,hcl⟩:=hc (by rw [insW_length]; omega)
    have hcell:w.cell? ⟨b,off + j,none⟩=some (.slice A1 xs.length c1):=hcl j _ (insW_get hx)
    have hxm:=HM.out _ (List.mem_of_getElem? hx)
    dsimp only at hxm
    have HS:=hid (szIntS_any A1 c1 xs.length r w hxm hr0 (by omega))
    have hst:=totL_step hx
    dsimp only at hst
    have HST:=hid (And.intro hst hr)
    have hlt':(j:Int) < (ls.length:Int):=by omega
    have hr1:r≤1048576:=by omega
    clear hcl hc hx hst hr
    by_cases hneg:r - (xs.length:Int) < 0
    ·rw [decide_eq_true hneg,pick_yes] at HS
     have hT:=hid (show decide (left - ((ls.length + totL ls:Nat):Int) < 0)=true from decide_eq_true (by have:=totL_take ls (j + 1); have:=HST.out.1; have:=HST.out.2; omega))
     go_wp2_with (go_at_call 66; (with_reducible refine (HS.out).mono ?_); rintro e w' ⟨rfl,rfl⟩)
     go_ret
     exact ⟨congrArg (fun z=>Ending.returned (Value.int .i64 z)) (show -1=pick (decide (left - ((ls.length + totL ls:Nat):Int) < 0)) (-1) (left - ((ls.length + totL ls:Nat):Int)) from by rw [hT.out,pick_yes]),rfl⟩
    ·rw [decide_eq_false hneg,pick_no] at HS
     have hneg':0≤r - (xs.length:Int):=by omega
     obtain ⟨v,hv⟩:∃ v,r - (xs.length:Int)=v:=⟨_,rfl⟩
     rw [hv] at HS hneg hneg'
     have HV:=hid hv
     clear hv
     go_wp2_with (go_at_call 66; (with_reducible refine (HS.out).mono ?_); rintro e w' ⟨rfl,rfl⟩)
     go_round
     case rel=>exact ⟨j + 1,v,by omega,by go_num,rfl,hneg',by rw [HST.out.1,←HV.out,HST.out.2]; omega⟩
     case measure=>simp [intOf]; omega
   ·obtain rfl:j=ls.length:=by omega
    rw [List.take_length] at hr
    have HR:=hid hr
    clear hr
    have hT:=hid (show decide (left - ((ls.length + totL ls:Nat):Int) < 0)=false from decide_eq_false (by have:=HR.out; omega))
    go_wp2
    go_ret
    exact ⟨congrArg (fun z=>Ending.returned (Value.int .i64 z)) (show r=pick (decide (left - ((ls.length + totL ls:Nat):Int) < 0)) (-1) (left - ((ls.length + totL ls:Nat):Int)) from by rw [hT.out,pick_no]; have:=HR.out; omega),rfl⟩
theorem fill_set (ds:List In1) (q:In1) (m:Nat) (z:Value):(insW ds ++ List.replicate (m + 1) z).set ds.length (.slice q.1 q.2.2.length q.2.1)=insW (ds ++ [q]) ++ List.replicate m z:=by
 have e:ds.length=(insW ds).length:=(insW_length ds).symm
 rw [e,List.set_append_right _ _ (Nat.le_refl _),Nat.sub_self,List.replicate_succ,List.set_cons_zero]
 simp [insW]
set_option maxHeartbeats 800000 in
theorem toIntSS_any (A:Option Addr) (c:Nat) (ls:List In1) (w:World) (hc:Cells w w.heap.size A (insW ls)) (hi:InsW w w.heap.size ls) (hn:ls.length + totL ls≤1048576) :
  Calls Tryz.prog 25 #[.slice A ls.length c] w fun e w'=>∃ ds:List In1,insN ds=insN ls∧e=.returned (.slice (some ⟨w.heap.size,0,none⟩) ls.length ls.length) ∧
   w'.ownsRow w.heap.size 30 1 (.slice (some ⟨w.heap.size,0,none⟩) ls.length ls.length) ls.length (insW ds)∧InsR w' (w.heap.size + 1) ds∧InsA ds∧Below w.heap.size w w':=by
 obtain ⟨i0,hi0,hz0,hz1,hz2⟩:=info_parts infoIntsL
 have HI:=hid hi
 have HM:=hid (fun q (hq:q∈ls)=>totL_mem hq)
 clear hi
 go_enter Tryz.func25,Tryz.ntmps25
 go_wp2_with (at_make; refine wpList_make_full _ rfl _ _ 25 rfl w.heap.size 30 i0 (.slice none 0 0) 1 Tryz.underlying25 hi0 hz0 hz1 _ _ _ _ ls.length rfl rfl rfl rfl (by rw [hz2]; omega) (by unfold maxLen; omega) (Nat.le_refl _) ?_)
 intro w1 hown1 hg1
 have hb1:Below w.heap.size w w1:=(Below.refl _ _).grown hg1 (Nat.le_refl _) (fun k hk=>by cases hk)
 have hL:(madeCells #[Value.slice none 0 0] ls.length).toList=insW [] ++ List.replicate (ls.length - 0) (.slice none 0 0):=by
  rw [Nat.sub_zero]; exact toList_madeCells_one _ _
 rw [hL] at hown1
 have H1:=hid (And.intro hown1 hb1)
 have hz:=(own_in hown1 _ rfl).2
 clear hL hg1 hi0 hz0 hz1 hz2 hown1 hb1
 go_wp2
 go_loopw [4] (fun i wr=>∃ (k:Nat) (ds:List In1),k≤ls.length∧i=.int .i64 k∧ds.length=k∧insN ds=(insN ls).take k∧wr.ownsRow w.heap.size 30 1 (.slice (some ⟨w.heap.size,0,none⟩) ls.length ls.length) ls.length (insW ds ++ List.replicate (ls.length - k) (.slice none 0 0)) ∧
  InsR wr (w.heap.size + 1) ds∧InsA ds∧Below w.heap.size w wr) (fun i _=>ls.length - (intOf i).toNat)
 case atStart=>exact ⟨0,[],Nat.zero_le _,rfl,rfl,rfl,H1.out.1,fun i q hq=>by simp at hq,fun i j q p hq=>by simp at hq,H1.out.2⟩
 case round =>
  clear H1
  obtain ⟨k,ds,hk,rfl,hdl,hdn,hown,hins,hap,hb⟩:=hrel
  have hzo:=(own_in hown _ rfl).2
  by_cases hlt:k < ls.length
  ·obtain ⟨⟨A1,c1,xs⟩,hx⟩:∃ x,ls[k]? = some x:=⟨_,List.getElem?_eq_getElem hlt⟩
   obtain ⟨b,off,rfl,hB,hcl⟩:=hc (by rw [insW_length]; omega)
   have hcell:wr.cell? ⟨b,off + k,none⟩=some (.slice A1 xs.length c1):=(hb.cell (p:=⟨b,off + k,none⟩) hB).trans (hcl k _ (insW_get hx))
   have hxl:=HM.out _ (List.mem_of_getElem? hx)
   dsimp only at hxl
   have hcx:=((HI.out k _ hx).below hb).more (B':=wr.heap.size) hb.size
   dsimp only at hcx
   have HT:=hid (toIntS_any A1 c1 xs wr hcx (by omega))
   have HN:=hid (insN_get hx)
   have HO:=hid (And.intro hown (And.intro hins (And.intro hap (And.intro hb (And.intro hdl hdn)))))
   have hlt':(k:Int) < (ls.length:Int):=by omega
   clear hcl hc hx hcx hxl hown hins hap hb hdn
   go_wp2_with fail
   refine Calls.mono HT.out ?_
   rintro e w2 ⟨rfl,hro,hb2⟩
   have hz2:=hb2.size
   have hown2:=own_below HO.out.1 hb2
   have hold:∃ u,w2.cell? ⟨w.heap.size,k,none⟩=some u:=by
    rw [hown2.cellAt k (by omega)]
    have:=hown2.1
    exact ⟨_,List.getElem?_eq_getElem (by omega)⟩
   obtain ⟨u,hu⟩:=hold
   have hfr:=hown2.frozenAt k
   have hst:=hown2.stored k (.slice (some ⟨wr.heap.size,0,none⟩) xs.length xs.length)
   rw [show ls.length - k=(ls.length - (k + 1)) + 1 by omega,←hdl,fill_set ds (some ⟨wr.heap.size,0,none⟩,xs.length,xs)] at hst
   rw [hdl] at hst
   have HF:=hid (And.intro hst.1 (And.intro (HO.out.2.1.below hb2) (And.intro hro (HO.out.2.2.2.1.trans (hb2.mono (by omega))))))
   have hlo:=fun i (q:In1) (hq:ds[i]? = some q)=>own_in (HO.out.2.1 i q hq)
   have HLO:=hid hlo
   clear hst hown2 hro hb2 hcell hlo
   go_wp2
   go_roundw
   case rel =>
    refine ⟨k + 1,ds ++ [(some ⟨wr.heap.size,0,none⟩,xs.length,xs)],by omega,by go_num,by rw [List.length_append,HO.out.2.2.2.2.1]; rfl,?_,HF.out.1,?_,?_,HF.out.2.2.2.setCell (Nat.le_refl _) _⟩
    ·rw [take_any HN.out,←HO.out.2.2.2.2.2]
     simp [insN]
    ·intro i q hq
     rw [List.getElem?_append] at hq
     split at hq
     ·exact own_set (HF.out.2.1 i q hq) _ _ (by dsimp only; omega)
     ·have:i - ds.length=0:=by have:=(List.getElem?_eq_some_iff.1 hq).1; simp at this; omega
      rw [this] at hq
      obtain rfl:=Option.some.inj hq
      exact own_set (own_weak HF.out.2.2.1 (by omega)) _ _ (by dsimp only; omega)
    ·have hmem:∀ (i:Nat) (q:In1),ds[i]? = some q→q.1≠some ⟨wr.heap.size,0,none⟩:=fun i q hq he=>by
      have:=(HLO.out i q hq wr.heap.size (by rw [he]; rfl)).2
      omega
     have hcase:∀ (i:Nat) (q:In1),(ds ++ [((some ⟨wr.heap.size,0,none⟩,xs.length,xs):In1)])[i]? = some q→ds[i]? = some q∨(i=ds.length∧q.1=some ⟨wr.heap.size,0,none⟩):=fun i q hq=>by
      rw [List.getElem?_append] at hq
      split at hq
      ·exact .inl hq
      ·have h0:i - ds.length=0:=by have:=(List.getElem?_eq_some_iff.1 hq).1; simp at this; omega
       rw [h0] at hq
       obtain rfl:=Option.some.inj hq
       exact .inr ⟨by omega,rfl⟩
     intro i j q p hq hp he
     rcases hcase i q hq with h1 | ⟨h1,h1'⟩ <;> rcases hcase j p hp with h2 | ⟨h2,h2'⟩
     ·exact HO.out.2.2.1 i j q p h1 h2 he
     ·exact absurd (he.trans h2') (hmem i q h1)
     ·exact absurd (he.symm.trans h1') (hmem j p h2)
     ·omega
   case measure=>simp [intOf]; omega
  ·obtain rfl:k=ls.length:=by omega
   have HF:=hid (And.intro hown (And.intro hins (And.intro hap (And.intro hb hdn))))
   clear hown hins hap hb hdn
   go_wp2
   go_ret
   have h1:=HF.out.1
   rw [Nat.sub_self,List.replicate_zero,List.append_nil] at h1
   exact ⟨ds,by rw [HF.out.2.2.2.2,←insN_length,List.take_length],rfl,h1,HF.out.2.1,HF.out.2.2.1,HF.out.2.2.2.1⟩
theorem eqIntSS_same (A B:Option Addr) (c d:Nat) (ls ds:List In1) (w:World) (ha:Cells w w.heap.size A (insW ls)) (hb:Cells w w.heap.size B (insW ds)) (hi:InsW w w.heap.size ls) (hd:InsW w w.heap.size ds) (hs:insN ds=insN ls) (hn:ls.length + totL ls≤1048576) :
  Calls Tryz.prog 29 #[.slice A ls.length c,.slice B ls.length d] w fun e w'=>e=.returned (.bool true)∧Below w.heap.size w w':=by
 have HI:=hid (And.intro hi hd)
 have HM:=hid (fun q (hq:q∈ls)=>totL_mem hq)
 have hdl:ds.length=ls.length:=by rw [←insN_length,hs,insN_length]
 have HS:=hid hs
 clear hi hd hs
 go_enter Tryz.func29,Tryz.ntmps29
 go_wp2
 go_loopw [5] (fun i wr=>∃ k:Nat,k≤ls.length∧i=.int .i64 k∧Below w.heap.size w wr) (fun i _=>ls.length - (intOf i).toNat)
 case atStart=>exact ⟨0,Nat.zero_le _,rfl,Below.refl _ _⟩
 case round =>
  obtain ⟨k,hk,rfl,hbw⟩:=hrel
  by_cases hlt:k < ls.length
  ·obtain ⟨⟨A1,c1,xs⟩,hx⟩:∃ x,ls[k]? = some x:=⟨_,List.getElem?_eq_getElem hlt⟩
   obtain ⟨⟨A2,c2,ys⟩,hy⟩:∃ x,ds[k]? = some x:=⟨_,List.getElem?_eq_getElem (by omega)⟩
   obtain rfl:ys=xs:=by
    have e1:=insN_get hx
    have e2:=insN_get hy
    rw [HS.out,e1] at e2
    exact (Option.some.inj e2).symm
   obtain ⟨b,off,rfl,hB,hcl⟩:=ha (by rw [insW_length]; omega)
   obtain ⟨b',off',rfl,hB',hcl'⟩:=hb (by rw [insW_length]; omega)
   have hcell:w.cell? ⟨b,off + k,none⟩=some (.slice A1 ys.length c1):=hcl k _ (insW_get hx)
   have hcell':w.cell? ⟨b',off' + k,none⟩=some (.slice A2 ys.length c2):=hcl' k _ (insW_get hy)
   have hxl:=HM.out _ (List.mem_of_getElem? hx)
   dsimp only at hxl
   have zw:=hbw.size
   have HK:=hid (fun w1 (h1:Below wr.heap.size wr w1)=>eqIntS_same A1 A2 c1 c2 ys w1 (((HI.out.1 k _ hx).below (hbw.trans (h1.mono zw))).more (by have:=h1.size; omega)) (((HI.out.2 k _ hy).below (hbw.trans (h1.mono zw))).more (by have:=h1.size; omega)) (by omega))
   have HC:=hid (And.intro ((hbw.cell (p:=⟨b,off + k,none⟩) hB).trans hcell) ((hbw.cell (p:=⟨b',off' + k,none⟩) hB').trans hcell'))
   have HB:=hid hbw
   have hlt':(k:Int) < (ls.length:Int):=by omega
   clear hcl hcl' ha hb hbw hx hy hcell hcell'
   go_wp2
   refine wp_forget0 (w0:=wr) (B:=wr.heap.size) (by exact belBy) ?_
   intro w2 hb2
   have z2:=hb2.size
   have HC2:=hid (And.intro ((hb2.cell (p:=⟨b,off + k,none⟩) (by dsimp only; omega)).trans HC.out.1) ((hb2.cell (p:=⟨b',off' + k,none⟩) (by dsimp only; omega)).trans HC.out.2))
   have HB2:=hid hb2
   clear hb2
   have f1:=fun (X:Later w2)=>(X.below.cell (p:=⟨b,off + k,none⟩) (by dsimp only; omega)).trans HC2.out.1
   have f2:=fun (X:Later w2)=>(X.below.cell (p:=⟨b',off' + k,none⟩) (by dsimp only; omega)).trans HC2.out.2
   have KK:=hid (fun (X:Later w2)=>HK.out X.val (HB2.out.trans (X.below.mono z2)))
   refine wp_region_later (by kernel_rfl) (by kernel_rfl) ?_
   repeat (go_big_quiet_step ((go_at_call 27; with_reducible exact Calls.later (KK.out _))))
   refine wpQuiet_nil ?_
   rintro _ ⟨⟨w3,hb3⟩,rfl⟩
   try dsimp only
   have HF:=hid (HB.out.trans ((HB2.out.trans (hb3.mono z2)).mono zw))
   clear f1 f2 KK hb3
   go_wp2
   go_roundw
   case rel=>exact ⟨k + 1,by omega,by go_num,HF.out⟩
   case measure=>simp [intOf]; omega
  ·obtain rfl:k=ls.length:=by omega
   go_wp2
   go_ret
   exact ⟨rfl,hbw⟩
theorem InsR.grown {w w':World} {base b e sz n:Nat} {ls:List In1} {v:Value} {xs:List Value} (h:InsR w base ls) (ho:w.ownsRow b e sz v n xs) (he:e≠3) (hg:w.grownBy w' v.ownBlock):InsR w' base ls:=fun i q hq=>gr_own hg (h i q hq) fun a p ha hp=>own_ne ho (h i q hq) he a p ha hp
def insK (ls:List In1):List Nat:=ls.filterMap fun q=>q.1.map (·.block)
theorem insK_mem {ls:List In1} {i:Nat} {q:In1} {a:Addr} (h:ls[i]? = some q) (ha:q.1=some a):a.block∈insK ls :=
 List.mem_filterMap.2 ⟨q,List.mem_of_getElem? h,by rw [ha]; rfl⟩
theorem insK_in {w:World} {base:Nat} {ls:List In1} (h:InsR w base ls):∀ i∈insK ls,base≤i∧i < w.heap.size:=fun i hi=>by
 obtain ⟨q,hq,e⟩:=List.mem_filterMap.1 hi
 obtain ⟨j,hj⟩:=List.getElem?_of_mem hq
 have ho:=h j q hj
 rcases ho.2 with ⟨hv,_⟩ | ⟨g,cap,cur,hv,_⟩
 ·injection hv with e1 _ _
  rw [e1] at e
  cases e
 ·injection hv with e1 _ _
  rw [e1] at e
  obtain rfl:=Option.some.inj e
  exact own_in ho g (by rw [e1]; rfl)
theorem Touch.of_grown {L:List Nat} {w w':World} {row:Option Nat} (h:w.grownBy w' row) (hr:∀ q,row=some q→q∈L):Touch L w w' :=
 ⟨h.os,h.tape,h.output,h.size,fun i hi hn=>h.block i hi (fun e=>hn (hr i e.symm))⟩
set_option maxHeartbeats 800000 in
theorem markIntSS_any (lo base:Nat) (A:Option Addr) (c:Nat) (ls:List In1) (k:Int) (w:World) (ho:w.ownsRow lo 30 1 (.slice A ls.length c) ls.length (insW ls)) (hi:InsR w base ls) (hap:InsA ls) (hn:ls.length + totL ls≤1048576) (h0:0≤k) (h1:k≤100000000000) :
  Calls Tryz.prog 31 #[.slice A ls.length c,.int .i64 k] w fun e w'=>e=.returned (.int .i64 (k + (totL ls:Int)))∧Touch (insK ls) w w':=by
 have HAP:=hid hap
 have HIW:=hid hi
 have HOW:=hid ho
 clear hap
 go_enter Tryz.func31,Tryz.ntmps31
 go_wp2
 go_loopw [1,5] (fun v i wr=>∃ j:Nat,j≤ls.length∧i=.int .i64 j∧v=.int .i64 (k + (totL (ls.take j):Int))∧wr.ownsRow lo 30 1 (.slice A ls.length c) ls.length (insW ls)∧(∀ i q,j≤i→ls[i]? = some q→wr.ownsRow base 3 1 (.slice q.1 q.2.2.length q.2.1) q.2.2.length (ints q.2.2))∧Touch (insK ls) w wr) (fun _ i _=>ls.length - (intOf i).toNat)
 case atStart=>exact ⟨0,Nat.zero_le _,rfl,by simp [totL],ho,fun i q _ hq=>hi i q hq,Touch.refl _ _⟩
 case round =>
  clear hi ho
  obtain ⟨j,hj,rfl,rfl,ho,hi,ht⟩:=hrel
  by_cases hlt:j < ls.length
  ·obtain ⟨⟨A1,c1,xs⟩,hx⟩:∃ x,ls[j]? = some x:=⟨_,List.getElem?_eq_getElem hlt⟩
   obtain ⟨b,off,rfl,hB,hcl⟩:=(Cells.of_own ho) (by rw [insW_length]; omega)
   have hcell:wr.cell? ⟨b,off + j,none⟩=some (.slice A1 xs.length c1):=hcl j _ (insW_get hx)
   have hst:=totL_step hx
   have htl:=totL_take ls j
   have htl2:=totL_take ls (j + 1)
   have hxr:=hi j _ (Nat.le_refl _) hx
   dsimp only at hst hxr
   obtain ⟨m,hm⟩:∃ m,totL (ls.take j)=m:=⟨_,rfl⟩
   rw [hm] at hst htl ⊢
   have HMK:=hid (markIntS_any base A1 c1 xs.length _ (k + (m:Int)) wr hxr (by omega) (by omega) (by omega))
   have HO:=hid (And.intro ho (And.intro hi (And.intro ht (And.intro hxr hx))))
   have HST:=hid hst
   have hlt':(j:Int) < (ls.length:Int):=by omega
   have hk1:k + (m:Int)≤200000000000:=by omega
   have hk2:k + (m:Int) + (xs.length:Int)≤200000000000:=by omega
   have hk0:0≤k + (m:Int):=by omega
   clear hcl ho hi ht hx hst hm hxr
   go_wp2_with fail
   refine Calls.mono HMK.out ?_
   rintro e w2 ⟨rfl,hro,hg⟩
   have HG:=hid hg
   clear hg hro hcell
   go_wp2
   go_roundw
   case rel =>
    refine ⟨j + 1,by omega,by go_num,by rw [HST.out]; congr 1; omega,?_,?_,?_⟩
    ·exact gr_own HG.out HO.out.1 (fun q p hq hp=>own_ne HO.out.2.2.2.1 HO.out.1 (by decide) q p hq hp)
    ·intro i q hij hq
     refine gr_own HG.out (HO.out.2.1 i q (by omega) hq) (fun a p ha hp e=>?_)
     subst e
     have h1:=HO.out.2.1 i q (by omega) hq
     rcases h1.2 with ⟨hv,_⟩ | ⟨g,cap,cur,hv,_⟩
     ·rw [hv] at hp; cases hp
     rcases HO.out.2.2.2.1.2 with ⟨hv2,_⟩ | ⟨g2,cap2,cur2,hv2,_⟩
     ·rw [hv2] at ha; cases ha
     injection hv with e1 _ _
     injection hv2 with e2 _ _
     rw [e1] at hp
     rw [e2] at ha
     have hp':g=a:=Option.some.inj hp
     have ha':g2=a:=Option.some.inj ha
     have:=HAP.out i j q _ hq HO.out.2.2.2.2 (by rw [e1]; dsimp only; rw [e2,hp',ha'])
     omega
    ·refine HO.out.2.2.1.trans (Touch.of_grown HG.out (fun q hq=>?_))
     rcases HO.out.2.2.2.1.2 with ⟨hv2,_⟩ | ⟨g2,cap2,cur2,hv2,_⟩
     ·rw [hv2] at hq; cases hq
     ·injection hv2 with e2 _ _
      rw [e2] at hq
      obtain rfl:g2=q:=Option.some.inj hq
      exact insK_mem HO.out.2.2.2.2 (a:=⟨g2,0,none⟩) e2
   case measure=>simp [intOf]; omega
  ·obtain rfl:j=ls.length:=by omega
   rw [List.take_length]
   have HT:=hid ht
   clear ho hi ht
   go_wp2
   go_ret
   exact ⟨rfl,HT.out⟩
open Go.RowKit
noncomputable def viewB (L:List St) (ins:List (List Int)) (s a:Int):Bool:=unrB L && insB ins && tapeOkB s a && decide (a≤800000)
noncomputable def viewL (L:List St) (ins:List (List Int)) (s a:Int):List Int:=if viewB L ins s a=true then wireL s a (cirG L) (labsTo s a (inBits ins) 80) else []
noncomputable def seenV (L:List St) (ins:List (List Int)) (s a:Int):List Int:=if viewB L ins s a=true then seenL (garZs s a (cirG L)) (deltaI s a) (wireL s a (cirG L) (labsTo s a (inBits ins) 80)) else []
theorem viewB_iff {L:List St} {ins:List (List Int)} {s a:Int}:viewB L ins s a=true↔(unrB L=true∧insB ins=true∧tapeOkB s a=true∧a≤800000):=by
 unfold viewB
 simp only [Bool.and_eq_true,decide_eq_true_eq,and_assoc]
def GivesV (w:World) (d:Int) (zs ts ws:List Int) (e:Ending) (w':World):Prop :=
 ∃ Z cz T ct V cv,e=.returned (.tuple #[.agg #[.int .i64 d,.slice Z zs.length cz,.slice T ts.length ct],.slice V ws.length cv,.bool true])∧w'.ownsRow w.heap.size 3 1 (.slice Z zs.length cz) zs.length (ints zs) ∧
  w'.ownsRow w.heap.size 3 1 (.slice T ts.length ct) ts.length (ints ts)∧w'.ownsRow w.heap.size 3 1 (.slice V ws.length cv) ws.length (ints ws)∧Below w.heap.size w w'
set_option linter.unusedVariables false in
set_option maxRecDepth 100000 in
set_option maxHeartbeats 6400000 in
theorem iViewYes (A:Option Addr) (c:Nat) (L:List St) (Ai:Option Addr) (ci:Nat) (ls:List In1) (s a:Int) (w:World) (hc:Cells w w.heap.size A (ints (flatS L))) (hn:L.length≤1000000000) (hcap:L.length≤c) (hci:Cells w w.heap.size Ai (insW ls)) (hi:InsW w w.heap.size ls) (hm:ls.length + totL ls≤1000000000) (hu:unrB L=true) (hib:insB (insN ls)=true) (h1:tapeOkB s a=true) (h2:a≤800000) :
  Calls Tryz.prog 58 #[.slice A L.length c,.slice Ai ls.length ci,.agg #[.int .i64 s,.int .i64 a]] w (GivesV w (deltaI s a) (garZs s a (cirG L)) (garTs s a (cirG L)) (wireL s a (cirG L) (labsTo s a (inBits (insN ls)) 80))):=by
 obtain ⟨B,hB⟩:∃ x,inBits (insN ls)=x:=⟨_,rfl⟩
 have hl80:=inBits_len hib
 rw [hB] at hl80 ⊢
 have hcv:=compL_valid hu
 have hol:=comp_outs L
 have hcir:=cir_valid hu
 obtain ⟨m,hom,hm9⟩:=cirO_len hu
 have hom6:(cirO L).length≤1000000:=by omega
 have hlab:=labs_labels s a B 80
 have hlen:=labsTo_length s a B 80
 have hgk:=gar_ok s a hcir hom6
 have hpk:=pub_ok s a hcir hom6
 have hwl:=wire_labels s a hcir hom6 hlab
 have hwn:=wireL_length s a (cirG L) (labsTo s a B 80)
 have HO:=hid (fun G O cg co w hg ho=>(show Calls Tryz.prog 49 #[.agg #[.slice G (compL L).g.length cg,.slice O (compL L).o.length co]] w (GivesK w (cirG L) (cirO L)) from iOptimize G O cg co (compL L).g (compL L).o w hg ho hcv hol))
 have HGA:=hid (fun G O cg co w hg ho=>(show Calls Tryz.prog 50 #[.agg #[.slice G (cirG L).length cg,.slice O (cirO L).length co],.agg #[.int .i64 s,.int .i64 a]] w (GivesG w (deltaI s a) (garZs s a (cirG L)) (garTs s a (cirG L))) from iGarble G O cg co (cirG L) (cirO L) s a w hg ho hcir hom6 h1 (by omega)))
 have HP:=hid (fun G O Z T cg co cz ct w hg ho hz ht=>(show Calls Tryz.prog 51 #[.agg #[.slice G (cirG L).length cg,.slice O (cirO L).length co],.agg #[.int .i64 (deltaI s a),.slice Z (garZs s a (cirG L)).length cz,.slice T (garTs s a (cirG L)).length ct]] w (GivesP w (garTs s a (cirG L)) (garCs s a (cirG L)) (decL (garZs s a (cirG L)) (cirO L))) from iPublicOf G O Z T cg co cz ct (cirG L) (cirO L) (deltaI s a) (garZs s a (cirG L)) (garTs s a (cirG L)) w hg ho hz ht hgk))
 have HE:=hid (fun G O T K D Q cg co ct ck cd cl w hg ho ht hc hd hl=>(show Calls Tryz.prog 52 #[.agg #[.slice G (cirG L).length cg,.slice O (cirO L).length co],.agg #[.slice T (garTs s a (cirG L)).length ct,.slice K (garCs s a (cirG L)).length ck,.slice D (decL (garZs s a (cirG L)) (cirO L)).length cd],.slice Q (labsTo s a B 80).length cl] w (GivesR w (wireL s a (cirG L) (labsTo s a B 80))) from iEvalGarbled G O T K D Q cg co ct ck cd cl (cirG L) (cirO L) _ _ _ (labsTo s a B 80) w hg ho ht hc hd hl hpk hlab hlen))
 have HC:=hid (fun w hc=>iCompile A c L w hc hn hcap)
 have HIO:=hid (fun w' (h:Below w.heap.size w w')=>iInsOk Ai ci ls w' ((hci.below h).more h.size) ((hi.below h (Nat.le_refl _)).more h.size) (by omega) (fun q hq=>by have:=totL_mem hq; omega))
 have HIB:=hid (fun w' (h:Below w.heap.size w w')=>iInBits Ai ci ls w' ((hci.below h).more h.size) ((hi.below h (Nat.le_refl _)).more h.size) hib)
 have HIL:=hid (fun A c w hc=>by
  have q:=iInputLabels s a A c B w h1 (by omega) (by rw [←hB]; exact inBits_bits _) (by omega) hc
  rwa [hl80] at q)
 have HTK:=hid (fun w=>iTapeOk s a w)
 rw [h1] at HTK
 rw [hu] at HC
 rw [hib] at HIO
 rw [hB] at HIB
 have ha8:decide ((800000:Int) < a)=false:=by simp; omega
 obtain ⟨g0,hg0⟩:∃ x,(compL L).g=x:=⟨_,rfl⟩
 obtain ⟨o0,ho0⟩:∃ x,(compL L).o=x:=⟨_,rfl⟩
 obtain ⟨gs,hgs⟩:∃ x,cirG L=x:=⟨_,rfl⟩
 obtain ⟨os,hos⟩:∃ x,cirO L=x:=⟨_,rfl⟩
 obtain ⟨d,hd⟩:∃ x,deltaI s a=x:=⟨_,rfl⟩
 rw [hg0,ho0,hgs,hos] at HO
 rw [hgs,hos,hd] at HGA
 rw [hgs,hos,hd] at HP
 rw [hgs,hos] at HE
 rw [hgs,hd]
 rw [hg0,ho0] at HC
 obtain ⟨zs,hzs⟩:∃ x,garZs s a gs=x:=⟨_,rfl⟩
 obtain ⟨ts,hts⟩:∃ x,garTs s a gs=x:=⟨_,rfl⟩
 obtain ⟨cs,hcs⟩:∃ x,garCs s a gs=x:=⟨_,rfl⟩
 rw [hzs,hts] at HGA
 rw [hzs,hts,hcs] at HP
 rw [hts,hcs,hzs] at HE
 obtain ⟨ds,hds⟩:∃ x,decL zs os=x:=⟨_,rfl⟩
 obtain ⟨LS,hLS⟩:∃ x,labsTo s a B 80=x:=⟨_,rfl⟩
 obtain ⟨ws,hws⟩:∃ x,wireL s a gs LS=x:=⟨_,rfl⟩
 rw [hzs,hts]
 rw [hds] at HP
 rw [hds,hLS,hws] at HE
 rw [hLS] at HIL
 rw [hLS,hws]
 clear hcv hol hcir hom hm9 hom6 hlab hlen hgk hpk hwl hwn hg0 ho0 hgs hos hd hzs hts hcs hds hLS hws hu hib h1 h2 hl80 hB hci hi hm hn hcap
 go_enter Tryz.func58,Tryz.ntmps58
 have b_0:=(Below.refl w.heap.size w)
 have s_0:=b_0.size
 have xs_0:=hc
 clear hc
 go_upto_region 1 with fail
 refine wp_forget2 (w0:=w) (B:=w.heap.size) (b0:=w.heap.size) (t0:=27) (c0:=#[.int .i64 s,.int .i64 a]) (b1:=w.heap.size + 1) (t1:=76) (c1:=#[.int .i64 0,.slice none 0 0,.slice none 0 0]) ?_ ?_ ?_ ?_
 (focus exact blkcBy2)
 (focus exact blkcBy2)
 (focus (exact belBy))
 intro w1 t_1 rg_1 hX1
 have sX1:=hX1.size
 have t_lt:=t_1.lt
 have rg_lt:=rg_1.lt
 have b_1:=b_0.trans (hX1.mono (by omega))
 have xs_1:=cells_below xs_0 hX1 (by omega)
 clear xs_0 b_0 hX1
 have cell_t:=t_1.cell
 have froz_t:=t_1.frozen
 have lt_t:=t_1.lt
 have cell_rg:=rg_1.cell
 have froz_rg:=rg_1.frozen
 have lt_rg:=rg_1.lt
 go_wp2_with fail
 refine calls_forget0 (W:=w1) ?_ ?_
 (focus (exact belBy))
 intro X2 hX2
 have sX2:=hX2.size
 refine (HC.out _ ((cells_below xs_1 hX2 (by omega)).more (by omega))).mono ?_
 rintro e w2 ⟨G0,cg0,O0,co0,rfl,g0r_2,o0r_2,hb2⟩
 have s2:=hb2.size
 have hT2:=hX2.trans (hb2.mono sX2)
 have b_2:=b_1.trans (hT2.mono (by omega))
 have xs_2:=cells_below xs_1 hT2 (by omega)
 have t_2:=Blk.past hT2 t_1
 have rg_2:=Blk.past hT2 rg_1
 have g0r_in:=own_in g0r_2
 have o0r_in:=own_in o0r_2
 clear xs_1 t_1 rg_1 b_1 cell_t froz_t lt_t cell_rg froz_rg lt_rg hX2 hT2 hb2
 have cell_t:=t_2.cell
 have froz_t:=t_2.frozen
 have lt_t:=t_2.lt
 have cell_rg:=rg_2.cell
 have froz_rg:=rg_2.frozen
 have lt_rg:=rg_2.lt
 go_upto_region 2 with fail
 refine wp_forget1 (w0:=w2) (B:=w2.heap.size) (b0:=w2.heap.size) (t0:=40) (c0:=#[.slice G0 g0.length cg0,.slice O0 o0.length co0]) ?_ ?_ ?_
 (focus exact blkcBy2)
 (focus (exact belBy))
 intro w3 x_3 hX3
 have sX3:=hX3.size
 have x_lt:=x_3.lt
 have b_3:=b_2.trans (hX3.mono (by omega))
 have xs_3:=cells_below xs_2 hX3 (by omega)
 have g0r_3:=own_below g0r_2 hX3
 have o0r_3:=own_below o0r_2 hX3
 have t_3:=Blk.past hX3 t_2
 have rg_3:=Blk.past hX3 rg_2
 clear xs_2 g0r_2 o0r_2 t_2 rg_2 b_2 cell_t froz_t lt_t cell_rg froz_rg lt_rg hX3
 have cell_t:=t_3.cell
 have froz_t:=t_3.frozen
 have lt_t:=t_3.lt
 have cell_rg:=rg_3.cell
 have froz_rg:=rg_3.frozen
 have lt_rg:=rg_3.lt
 have cell_x:=x_3.cell
 have froz_x:=x_3.frozen
 have lt_x:=x_3.lt
 go_wp2_with fail
 refine calls_forget0 (W:=w3) ?_ ?_
 (focus (exact belBy))
 intro X4 hX4
 have sX4:=hX4.size
 refine (HIO.out _ (b_3.trans (hX4.mono (by omega)))).mono ?_
 rintro e w' ⟨rfl,rfl⟩
 have b_4:=b_3.trans (hX4.mono (by omega))
 have xs_4:=cells_below xs_3 hX4 (by omega)
 have g0r_4:=own_below g0r_3 hX4
 have o0r_4:=own_below o0r_3 hX4
 have t_4:=Blk.past hX4 t_3
 have rg_4:=Blk.past hX4 rg_3
 have x_4:=Blk.past hX4 x_3
 clear xs_3 g0r_3 o0r_3 t_3 rg_3 x_3 b_3 cell_t froz_t lt_t cell_rg froz_rg lt_rg cell_x froz_x lt_x hX4
 have cell_t:=t_4.cell
 have froz_t:=t_4.frozen
 have lt_t:=t_4.lt
 have cell_rg:=rg_4.cell
 have froz_rg:=rg_4.frozen
 have lt_rg:=rg_4.lt
 have cell_x:=x_4.cell
 have froz_x:=x_4.frozen
 have lt_x:=x_4.lt
 go_wp2_with fail
 refine calls_forget0 (W:=X4) ?_ ?_
 (focus (exact belBy))
 intro X5 hX5
 have sX5:=hX5.size
 refine (HTK.out _).mono ?_
 rintro e w5 ⟨rfl,hb5⟩
 have s5:=hb5.size
 have hT5:=hX5.trans (hb5.mono sX5)
 have b_5:=b_4.trans (hT5.mono (by omega))
 have xs_5:=cells_below xs_4 hT5 (by omega)
 have g0r_5:=own_below g0r_4 hT5
 have o0r_5:=own_below o0r_4 hT5
 have t_5:=Blk.past hT5 t_4
 have rg_5:=Blk.past hT5 rg_4
 have x_5:=Blk.past hT5 x_4
 clear xs_4 g0r_4 o0r_4 t_4 rg_4 x_4 b_4 cell_t froz_t lt_t cell_rg froz_rg lt_rg cell_x froz_x lt_x hX5 hT5 hb5
 have cell_t:=t_5.cell
 have froz_t:=t_5.frozen
 have lt_t:=t_5.lt
 have cell_rg:=rg_5.cell
 have froz_rg:=rg_5.frozen
 have lt_rg:=rg_5.lt
 have cell_x:=x_5.cell
 have froz_x:=x_5.frozen
 have lt_x:=x_5.lt
 go_wp2_with fail
 refine calls_forget0 (W:=w5) ?_ ?_
 (focus (exact belBy))
 intro X6 hX6
 have sX6:=hX6.size
 refine (HO.out _ _ _ _ _ (Cells.of_own (own_below g0r_5 hX6)) (Cells.of_own (own_below o0r_5 hX6))).mono ?_
 rintro e w6 ⟨G1,cg1,O1,co1,rfl,g1_6,o1_6,hb6⟩
 have s6:=hb6.size
 have hT6:=hX6.trans (hb6.mono sX6)
 have b_6:=b_5.trans (hT6.mono (by omega))
 have xs_6:=cells_below xs_5 hT6 (by omega)
 have g0r_6:=own_below g0r_5 hT6
 have o0r_6:=own_below o0r_5 hT6
 have t_6:=Blk.past hT6 t_5
 have rg_6:=Blk.past hT6 rg_5
 have x_6:=Blk.past hT6 x_5
 have g1_in:=own_in g1_6
 have o1_in:=own_in o1_6
 clear xs_5 g0r_5 o0r_5 t_5 rg_5 x_5 b_5 cell_t froz_t lt_t cell_rg froz_rg lt_rg cell_x froz_x lt_x hX6 hT6 hb6
 have cell_t:=t_6.cell
 have froz_t:=t_6.frozen
 have lt_t:=t_6.lt
 have cell_rg:=rg_6.cell
 have froz_rg:=rg_6.frozen
 have lt_rg:=rg_6.lt
 have cell_x:=x_6.cell
 have froz_x:=x_6.frozen
 have lt_x:=x_6.lt
 go_upto_region 5 with fail
 refine wp_touch1 (w0:=w6) (L:=[w2.heap.size]) (b0:=w2.heap.size) (t0:=40) (c0:=#[.slice G1 gs.length cg1,.slice O1 os.length co1]) ?_ ?_ ?_
 (focus exact blkcBy2)
 (focus (exact tchBy))
 intro w7 x_7 hX7
 have sX7:=hX7.size
 have b_7:=hX7.below b_6 (by first | (simp; done) | (simp; omega))
 have xs_7:=cells_touch hX7 xs_6 (by omega) (by first | (simp; done) | (simp; omega))
 have g0r_7:=own_touch' hX7 g0r_6 (fun q hq=>by have h1:=g0r_in q hq; (try have e0:=own_ne_obj g0r_6 x_6 (by decide) q hq); simp; omega)
 have o0r_7:=own_touch' hX7 o0r_6 (fun q hq=>by have h1:=o0r_in q hq; (try have e0:=own_ne_obj o0r_6 x_6 (by decide) q hq); simp; omega)
 have g1_7:=own_touch' hX7 g1_6 (fun q hq=>by have h1:=g1_in q hq; (try have e0:=own_ne_obj g1_6 x_6 (by decide) q hq); simp; omega)
 have o1_7:=own_touch' hX7 o1_6 (fun q hq=>by have h1:=o1_in q hq; (try have e0:=own_ne_obj o1_6 x_6 (by decide) q hq); simp; omega)
 have t_7:=Blk.touch hX7 t_6 (by first | (simp; done) | (simp; omega))
 have rg_7:=Blk.touch hX7 rg_6 (by first | (simp; done) | (simp; omega))
 clear xs_6 g0r_6 o0r_6 g1_6 o1_6 t_6 rg_6 x_6 b_6 cell_t froz_t lt_t cell_rg froz_rg lt_rg cell_x froz_x lt_x hX7
 have cell_t:=t_7.cell
 have froz_t:=t_7.frozen
 have lt_t:=t_7.lt
 have cell_rg:=rg_7.cell
 have froz_rg:=rg_7.frozen
 have lt_rg:=rg_7.lt
 have cell_x:=x_7.cell
 have froz_x:=x_7.frozen
 have lt_x:=x_7.lt
 go_wp2_with fail
 refine calls_forget0 (W:=w7) ?_ ?_
 (focus (exact belBy))
 intro X8 hX8
 have sX8:=hX8.size
 refine (HGA.out _ _ _ _ _ (Cells.of_own (own_below g1_7 hX8)) (Cells.of_own (own_below o1_7 hX8))).mono ?_
 rintro e w8 ⟨Z,cz,T,ct,rfl,zz_8,tt_8,hb8⟩
 have s8:=hb8.size
 have hT8:=hX8.trans (hb8.mono sX8)
 have b_8:=b_7.trans (hT8.mono (by omega))
 have xs_8:=cells_below xs_7 hT8 (by omega)
 have g0r_8:=own_below g0r_7 hT8
 have o0r_8:=own_below o0r_7 hT8
 have g1_8:=own_below g1_7 hT8
 have o1_8:=own_below o1_7 hT8
 have t_8:=Blk.past hT8 t_7
 have rg_8:=Blk.past hT8 rg_7
 have x_8:=Blk.past hT8 x_7
 have zz_in:=own_in zz_8
 have tt_in:=own_in tt_8
 clear xs_7 g0r_7 o0r_7 g1_7 o1_7 t_7 rg_7 x_7 b_7 cell_t froz_t lt_t cell_rg froz_rg lt_rg cell_x froz_x lt_x hX8 hT8 hb8
 have cell_t:=t_8.cell
 have froz_t:=t_8.frozen
 have lt_t:=t_8.lt
 have cell_rg:=rg_8.cell
 have froz_rg:=rg_8.frozen
 have lt_rg:=rg_8.lt
 have cell_x:=x_8.cell
 have froz_x:=x_8.frozen
 have lt_x:=x_8.lt
 go_upto_region 6 with fail
 refine wp_forget1 (w0:=w8) (B:=w8.heap.size) (b0:=w8.heap.size) (t0:=76) (c0:=#[.int .i64 d,.slice Z zs.length cz,.slice T ts.length ct]) ?_ ?_ ?_
 (focus exact blkcBy2)
 (focus (exact belBy))
 intro w9 ga_9 hX9
 have sX9:=hX9.size
 have ga_lt:=ga_9.lt
 have b_9:=b_8.trans (hX9.mono (by omega))
 have xs_9:=cells_below xs_8 hX9 (by omega)
 have g0r_9:=own_below g0r_8 hX9
 have o0r_9:=own_below o0r_8 hX9
 have g1_9:=own_below g1_8 hX9
 have o1_9:=own_below o1_8 hX9
 have zz_9:=own_below zz_8 hX9
 have tt_9:=own_below tt_8 hX9
 have t_9:=Blk.past hX9 t_8
 have rg_9:=Blk.past hX9 rg_8
 have x_9:=Blk.past hX9 x_8
 clear xs_8 g0r_8 o0r_8 g1_8 o1_8 zz_8 tt_8 t_8 rg_8 x_8 b_8 cell_t froz_t lt_t cell_rg froz_rg lt_rg cell_x froz_x lt_x hX9
 have cell_t:=t_9.cell
 have froz_t:=t_9.frozen
 have lt_t:=t_9.lt
 have cell_rg:=rg_9.cell
 have froz_rg:=rg_9.frozen
 have lt_rg:=rg_9.lt
 have cell_x:=x_9.cell
 have froz_x:=x_9.frozen
 have lt_x:=x_9.lt
 have cell_ga:=ga_9.cell
 have froz_ga:=ga_9.frozen
 have lt_ga:=ga_9.lt
 go_wp2_with fail
 refine calls_forget0 (W:=w9) ?_ ?_
 (focus (exact belBy))
 intro X10 hX10
 have sX10:=hX10.size
 refine (HP.out _ _ _ _ _ _ _ _ _ (Cells.of_own (own_below g1_9 hX10)) (Cells.of_own (own_below o1_9 hX10)) (Cells.of_own (own_below zz_9 hX10)) (own_weak (own_below tt_9 hX10) (Nat.zero_le _))).mono ?_
 rintro e w10 ⟨T2,ct2,K,ck,D,cd,rfl,t2_10,kk_10,dd_10,hb10⟩
 have s10:=hb10.size
 have hT10:=hX10.trans (hb10.mono sX10)
 have b_10:=b_9.trans (hT10.mono (by omega))
 have xs_10:=cells_below xs_9 hT10 (by omega)
 have g0r_10:=own_below g0r_9 hT10
 have o0r_10:=own_below o0r_9 hT10
 have g1_10:=own_below g1_9 hT10
 have o1_10:=own_below o1_9 hT10
 have zz_10:=own_below zz_9 hT10
 have tt_10:=own_below tt_9 hT10
 have t_10:=Blk.past hT10 t_9
 have rg_10:=Blk.past hT10 rg_9
 have x_10:=Blk.past hT10 x_9
 have ga_10:=Blk.past hT10 ga_9
 have t2_in:=own_in t2_10
 have kk_in:=own_in kk_10
 have dd_in:=own_in dd_10
 clear xs_9 g0r_9 o0r_9 g1_9 o1_9 zz_9 tt_9 t_9 rg_9 x_9 ga_9 b_9 cell_t froz_t lt_t cell_rg froz_rg lt_rg cell_x froz_x lt_x cell_ga froz_ga lt_ga hX10 hT10 hb10
 have cell_t:=t_10.cell
 have froz_t:=t_10.frozen
 have lt_t:=t_10.lt
 have cell_rg:=rg_10.cell
 have froz_rg:=rg_10.frozen
 have lt_rg:=rg_10.lt
 have cell_x:=x_10.cell
 have froz_x:=x_10.frozen
 have lt_x:=x_10.lt
 have cell_ga:=ga_10.cell
 have froz_ga:=ga_10.frozen
 have lt_ga:=ga_10.lt
 go_upto_region 7 with fail
 refine wp_forget1 (w0:=w10) (B:=w10.heap.size) (b0:=w10.heap.size) (t0:=80) (c0:=#[.slice T2 ts.length ct2,.slice K cs.length ck,.slice D ds.length cd]) ?_ ?_ ?_
 (focus exact blkcBy2)
 (focus (exact belBy))
 intro w11 pu_11 hX11
 have sX11:=hX11.size
 have pu_lt:=pu_11.lt
 have b_11:=b_10.trans (hX11.mono (by omega))
 have xs_11:=cells_below xs_10 hX11 (by omega)
 have g0r_11:=own_below g0r_10 hX11
 have o0r_11:=own_below o0r_10 hX11
 have g1_11:=own_below g1_10 hX11
 have o1_11:=own_below o1_10 hX11
 have zz_11:=own_below zz_10 hX11
 have tt_11:=own_below tt_10 hX11
 have t2_11:=own_below t2_10 hX11
 have kk_11:=own_below kk_10 hX11
 have dd_11:=own_below dd_10 hX11
 have t_11:=Blk.past hX11 t_10
 have rg_11:=Blk.past hX11 rg_10
 have x_11:=Blk.past hX11 x_10
 have ga_11:=Blk.past hX11 ga_10
 clear xs_10 g0r_10 o0r_10 g1_10 o1_10 zz_10 tt_10 t2_10 kk_10 dd_10 t_10 rg_10 x_10 ga_10 b_10 cell_t froz_t lt_t cell_rg froz_rg lt_rg cell_x froz_x lt_x cell_ga froz_ga lt_ga hX11
 have cell_t:=t_11.cell
 have froz_t:=t_11.frozen
 have lt_t:=t_11.lt
 have cell_rg:=rg_11.cell
 have froz_rg:=rg_11.frozen
 have lt_rg:=rg_11.lt
 have cell_x:=x_11.cell
 have froz_x:=x_11.frozen
 have lt_x:=x_11.lt
 have cell_ga:=ga_11.cell
 have froz_ga:=ga_11.frozen
 have lt_ga:=ga_11.lt
 have cell_pu:=pu_11.cell
 have froz_pu:=pu_11.frozen
 have lt_pu:=pu_11.lt
 go_wp2_with fail
 go_region_held3 (fun w'=>w'.cell? ⟨w.heap.size,0,none⟩=some (.int .i64 s)∧w'.cell? ⟨w.heap.size,1,none⟩=some (.int .i64 a)∧w'.cell? ⟨w2.heap.size,0,none⟩=some (.slice G1 gs.length cg1)∧w'.cell? ⟨w2.heap.size,1,none⟩=some (.slice O1 os.length co1)∧w'.cell? ⟨w10.heap.size,0,none⟩=some (.slice T2 ts.length ct2)∧w'.cell? ⟨w10.heap.size,1,none⟩=some (.slice K cs.length ck)∧w'.cell? ⟨w10.heap.size,2,none⟩=some (.slice D ds.length cd)) ((refine ⟨(Blk.cell (t:=27) (cs:=#[.int .i64 s,.int .i64 a]) ?qt 0),(Blk.cell ?qt 1),(Blk.cell (t:=40) (cs:=#[.slice G1 gs.length cg1,.slice O1 os.length co1]) ?qx 0),(Blk.cell ?qx 1),(Blk.cell (t:=80) (cs:=#[.slice T2 ts.length ct2,.slice K cs.length ck,.slice D ds.length cd]) ?qpu 0),(Blk.cell ?qpu 1),(Blk.cell ?qpu 2)⟩; (case qt=>(exact blkBy)); (case qx=>(exact blkBy)); (case qpu=>(exact blkBy)))) (first | (go_at_call 48; refine calls_forget0 (W:=w11) ?_ ?_; (focus (exact belBy)); intro X12 hX12; have sX12:=hX12.size; refine (HIB.out _ (b_11.trans (hX12.mono (by omega)))).mono ?_; rintro e w12 ⟨Ab,cb,rfl,bt_12,hb12⟩; have s12:=hb12.size; have hT12:=hX12.trans (hb12.mono sX12); have b_12:=b_11.trans (hT12.mono (by omega)); have xs_12:=cells_below xs_11 hT12 (by omega); have g0r_12:=own_below g0r_11 hT12; have o0r_12:=own_below o0r_11 hT12; have g1_12:=own_below g1_11 hT12; have o1_12:=own_below o1_11 hT12; have zz_12:=own_below zz_11 hT12; have tt_12:=own_below tt_11 hT12; have t2_12:=own_below t2_11 hT12; have kk_12:=own_below kk_11 hT12; have dd_12:=own_below dd_11 hT12; have t_12:=Blk.past hT12 t_11; have rg_12:=Blk.past hT12 rg_11; have x_12:=Blk.past hT12 x_11; have ga_12:=Blk.past hT12 ga_11; have pu_12:=Blk.past hT12 pu_11; have bt_in:=own_in bt_12; clear xs_11 g0r_11 o0r_11 g1_11 o1_11 zz_11 tt_11 t2_11 kk_11 dd_11 t_11 rg_11 x_11 ga_11 pu_11 b_11 cell_t froz_t lt_t cell_rg froz_rg lt_rg cell_x froz_x lt_x cell_ga froz_ga lt_ga cell_pu froz_pu lt_pu hX12 hT12 hb12; have cell_t:=t_12.cell; have froz_t:=t_12.frozen; have lt_t:=t_12.lt; have cell_rg:=rg_12.cell; have froz_rg:=rg_12.frozen; have lt_rg:=rg_12.lt; have cell_x:=x_12.cell; have froz_x:=x_12.frozen; have lt_x:=x_12.lt; have cell_ga:=ga_12.cell; have froz_ga:=ga_12.frozen; have lt_ga:=ga_12.lt; have cell_pu:=pu_12.cell; have froz_pu:=pu_12.frozen; have lt_pu:=pu_12.lt) | (go_at_call 94; refine calls_forget0 (W:=w12) ?_ ?_; (focus (exact belBy)); intro X13 hX13; have sX13:=hX13.size; refine (HIL.out _ _ _ (Cells.of_own (own_below bt_12 hX13))).mono ?_; rintro e w13 ⟨Al,cl,rfl,lb_13,hb13⟩; have s13:=hb13.size; have hT13:=hX13.trans (hb13.mono sX13); have b_13:=b_12.trans (hT13.mono (by omega)); have xs_13:=cells_below xs_12 hT13 (by omega); have g0r_13:=own_below g0r_12 hT13; have o0r_13:=own_below o0r_12 hT13; have g1_13:=own_below g1_12 hT13; have o1_13:=own_below o1_12 hT13; have zz_13:=own_below zz_12 hT13; have tt_13:=own_below tt_12 hT13; have t2_13:=own_below t2_12 hT13; have kk_13:=own_below kk_12 hT13; have dd_13:=own_below dd_12 hT13; have bt_13:=own_below bt_12 hT13; have t_13:=Blk.past hT13 t_12; have rg_13:=Blk.past hT13 rg_12; have x_13:=Blk.past hT13 x_12; have ga_13:=Blk.past hT13 ga_12; have pu_13:=Blk.past hT13 pu_12; have lb_in:=own_in lb_13; clear xs_12 g0r_12 o0r_12 g1_12 o1_12 zz_12 tt_12 t2_12 kk_12 dd_12 bt_12 t_12 rg_12 x_12 ga_12 pu_12 b_12 cell_t froz_t lt_t cell_rg froz_rg lt_rg cell_x froz_x lt_x cell_ga froz_ga lt_ga cell_pu froz_pu lt_pu hX13 hT13 hb13; have cell_t:=t_13.cell; have froz_t:=t_13.frozen; have lt_t:=t_13.lt; have cell_rg:=rg_13.cell; have froz_rg:=rg_13.frozen; have lt_rg:=rg_13.lt; have cell_x:=x_13.cell; have froz_x:=x_13.frozen; have lt_x:=x_13.lt; have cell_ga:=ga_13.cell; have froz_ga:=ga_13.frozen; have lt_ga:=ga_13.lt; have cell_pu:=pu_13.cell; have froz_pu:=pu_13.frozen; have lt_pu:=pu_13.lt) | (go_at_call 52; refine calls_forget0 (W:=w13) ?_ ?_; (focus (exact belBy)); intro X14 hX14; have sX14:=hX14.size; refine (HE.out _ _ _ _ _ _ _ _ _ _ _ _ _ (Cells.of_own (own_below g1_13 hX14)) (Cells.of_own (own_below o1_13 hX14)) (Cells.of_own (own_below t2_13 hX14)) (Cells.of_own (own_below kk_13 hX14)) (Cells.of_own (own_below dd_13 hX14)) (Cells.of_own (own_below lb_13 hX14))).mono ?_; rintro e w14 ⟨A5,c5,rfl,wr5_14,hb14⟩; have s14:=hb14.size; have hT14:=hX14.trans (hb14.mono sX14); have b_14:=b_13.trans (hT14.mono (by omega)); have xs_14:=cells_below xs_13 hT14 (by omega); have g0r_14:=own_below g0r_13 hT14; have o0r_14:=own_below o0r_13 hT14; have g1_14:=own_below g1_13 hT14; have o1_14:=own_below o1_13 hT14; have zz_14:=own_below zz_13 hT14; have tt_14:=own_below tt_13 hT14; have t2_14:=own_below t2_13 hT14; have kk_14:=own_below kk_13 hT14; have dd_14:=own_below dd_13 hT14; have bt_14:=own_below bt_13 hT14; have lb_14:=own_below lb_13 hT14; have t_14:=Blk.past hT14 t_13; have rg_14:=Blk.past hT14 rg_13; have x_14:=Blk.past hT14 x_13; have ga_14:=Blk.past hT14 ga_13; have pu_14:=Blk.past hT14 pu_13; have wr5_in:=own_in wr5_14; clear xs_13 g0r_13 o0r_13 g1_13 o1_13 zz_13 tt_13 t2_13 kk_13 dd_13 bt_13 lb_13 t_13 rg_13 x_13 ga_13 pu_13 b_13 cell_t froz_t lt_t cell_rg froz_rg lt_rg cell_x froz_x lt_x cell_ga froz_ga lt_ga cell_pu froz_pu lt_pu hX14 hT14 hb14; have cell_t:=t_14.cell; have froz_t:=t_14.frozen; have lt_t:=t_14.lt; have cell_rg:=rg_14.cell; have froz_rg:=rg_14.frozen; have lt_rg:=rg_14.lt; have cell_x:=x_14.cell; have froz_x:=x_14.frozen; have lt_x:=x_14.lt; have cell_ga:=ga_14.cell; have froz_ga:=ga_14.frozen; have lt_ga:=ga_14.lt; have cell_pu:=pu_14.cell; have froz_pu:=pu_14.frozen; have lt_pu:=pu_14.lt))
 have HR:=hid (And.intro (own_weak zz_14 (show w.heap.size + 2≤_ by omega)) (And.intro (own_weak tt_14 (show w.heap.size + 2≤_ by omega)) (And.intro (own_weak wr5_14 (show w.heap.size + 2≤_ by omega)) b_14)))
 clear g0r_14 o0r_14 g1_14 o1_14 zz_14 tt_14 t2_14 kk_14 dd_14 wr5_14 xs_14 lb_14 bt_14 b_14
 go_wp2
 ((try simp only [Exit.inBlock,Exit.then]); apply bodyPost_ret0; focus ((try simp only [results,Tryz.results58]); (try go_simp); (try rfl)))
 have hr:=HR.out
 have hz:=hr.2.2.2.size
 refine ⟨Z,cz,T,ct,A5,c5,rfl,?_,?_,?_,?_⟩
 ·exact own_weak (own_touch' (L:=[w.heap.size + 1]) (w:=w14) (by exact tchBy) hr.1 (fun q hq=>by have:=(own_in hr.1 q hq).1; simp; omega)) (by omega)
 ·exact own_weak (own_touch' (L:=[w.heap.size + 1]) (w:=w14) (by exact tchBy) hr.2.1 (fun q hq=>by have:=(own_in hr.2.1 q hq).1; simp; omega)) (by omega)
 ·exact own_weak (own_touch' (L:=[w.heap.size + 1]) (w:=w14) (by exact tchBy) hr.2.2.1 (fun q hq=>by have:=(own_in hr.2.2.1 q hq).1; simp; omega)) (by omega)
 ·exact Touch.below' (L:=[w.heap.size + 1]) (w:=w14) (by exact tchBy) hr.2.2.2 (fun i hi=>by simp at hi; omega) hz
end Go.Proofs.YtihbaieiempjeaaGreat
