/- Lemmas of the proof: Ins, InsI, InsS, Grow, Grow2, Grow3, Grow4. -/
import Derived.Test.YtihbaieiempjeaaGreatC5
import Derived.Test.YtihbaieiempjeaaGreatC1
import Derived.Test.YtihbaieiempjeaaGreatC0
import Derived.StillTail
import Derived.Laws.OwnMore
import Derived.BigQuiet
namespace Go.Proofs.YtihbaieiempjeaaGreat
open Go.RowKit
theorem take_any {α:Type} {xs:List α} {k:Nat} {x:α} (h:xs[k]? = some x):xs.take (k + 1)=xs.take k ++ [x]:=by
 obtain ⟨hl,e⟩:=List.getElem?_eq_some_iff.1 h
 rw [List.take_succ_eq_append_getElem hl,e]
abbrev In1:Type:=Option Addr × Nat × List Int
def insW (ls:List In1):List Value:=ls.map fun q=>.slice q.1 q.2.2.length q.2.1
def insN (ls:List In1):List (List Int):=ls.map fun q=>q.2.2
def InsW (w:World) (B:Nat) (ls:List In1):Prop:=∀ (i:Nat) (q:In1),ls[i]? = some q→Cells w B q.1 (ints q.2.2)
def BitsE (w:World) (xs:List Int) (L:Nat) (o:Value) (wr:World):Prop :=
 ∃ (A':Option Addr) (c':Nat),xs.length=L∧o=.slice A' L c'∧wr.ownsRow w.heap.size 3 1 (.slice A' L c') L (ints xs)∧Below w.heap.size w wr
theorem insW_length (ls:List In1):(insW ls).length=ls.length:=by simp [insW]
theorem insN_length (ls:List In1):(insN ls).length=ls.length:=by simp [insN]
theorem insW_get {ls:List In1} {i:Nat} {q:In1} (h:ls[i]? = some q):(insW ls)[i]? = some (.slice q.1 q.2.2.length q.2.1):=by simp [insW,h]
theorem insN_get {ls:List In1} {i:Nat} {q:In1} (h:ls[i]? = some q):(insN ls)[i]? = some q.2.2:=by simp [insN,h]
theorem InsW.below {w w':World} {B:Nat} {ls:List In1} (h:InsW w B ls) (hb:Below w.heap.size w w') (hB:B≤w.heap.size):InsW w' B ls:=fun i q hq=>cells_below (h i q hq) hb hB
theorem InsW.more {w:World} {B B':Nat} {ls:List In1} (h:InsW w B ls) (hB:B≤B'):InsW w B' ls:=fun i q hq=>(h i q hq).more hB
def nbB (xs:List Int):Bool:=xs.all fun n=>inB n 0 15
theorem nbB_no {xs:List Int} {k:Nat} {x:Int} (h:xs[k]? = some x) (hx:inB x 0 15=false):nbB xs=false:=by
 unfold nbB
 rw [List.all_eq_false]
 exact ⟨x,List.mem_of_getElem? h,by simp [hx]⟩
theorem nbB_snoc {xs:List Int} {k:Nat} {x:Int} (h:xs[k]? = some x) (hw:nbB (xs.take k)=true) (hx:inB x 0 15=true):nbB (xs.take (k + 1))=true:=by
 rw [take_snoc h]
 unfold nbB at *
 simp [hw,hx,List.all_append]
def lnB (xs:List Int):Bool:=decide (xs.length=4) && nbB xs
def lnsB (ins:List (List Int)):Bool:=ins.all lnB
theorem insB_eq (ins:List (List Int)):insB ins=(lnsB ins && decide (ins.length=5)):=by
 rw [Bool.and_comm]
 rfl
theorem lnsB_no {ins:List (List Int)} {k:Nat} {x:List Int} (h:ins[k]? = some x) (hx:lnB x=false):lnsB ins=false:=by
 unfold lnsB
 rw [List.all_eq_false]
 exact ⟨x,List.mem_of_getElem? h,by simp [hx]⟩
theorem lnsB_snoc {ins:List (List Int)} {k:Nat} {x:List Int} (h:ins[k]? = some x) (hw:lnsB (ins.take k)=true) (hx:lnB x=true):lnsB (ins.take (k + 1))=true:=by
 rw [take_any h]
 unfold lnsB at *
 simp [hw,hx,List.all_append]
theorem app_inti {w:World} {ops:Array Oper} {rest:List Oper} {o:Oper} {a:Act} {Q:Exit→Act→World→Prop} (hgd:o.guard=none) (s x:Operand) (ho:o.op=.call { callee:=.builtin .append,args:=#[s,x],argTypes:=#[30,30] })
  {base n:Nat} {v:Value} {L:List Int} (hs:a.eval s=v) (hown:w.ownsRow base 3 1 v n (ints L)) (hbase:base≤w.heap.size) {b off m k:Nat} (M:List Int) (hx:a.eval x=.slice (some ⟨b,off,none⟩) m k) (hl:M.length=m)
  (hc:∀ j u,(ints M)[j]? = some u→w.cell? ⟨b,off + j,none⟩=some u) (hb:n + m≤1000000)
  (h:∀ A c' w',w'.ownsRow base 3 1 (.slice A (n + m) c') (n + m) (ints (L ++ M))→w.grownBy w' v.ownBlock→(∀ q,(Value.slice A (n + m) c').ownBlock=some q→v.ownBlock=some q∨q=w.heap.size)→wpList Tryz.prog ops Q rest (a.put o.dst (.slice A (n + m) c')) w'):wpList Tryz.prog ops Q (o :: rest) a w :=
 wpList_appi hgd s x _ ho base _ _ 1 8 Tryz.underlying30 infoI rfl (by decide) v n (ints L) hs hown ⟨b,off,none⟩ m k (ints M) hx (by rw [ints_length,hl,Nat.mul_one]) (cells_add hc) (ints_one _) (by omega) (by decide) hbase
  fun A c w' h1 h2 h3=>h A c w' (by rw [ints_app]; exact h1) h2 h3
def bits16 (l:List Int):List Int:=l.flatMap bits4
theorem bits16_len (l:List Int):(bits16 l).length=4 * l.length:=by
 unfold bits16
 induction l with
 | nil=>rfl
 | cons a l ih =>
  rw [List.flatMap_cons,List.length_append,ih,List.length_cons]
  simp [bits4]
  omega
theorem bits16_step {l:List Int} {j:Nat} {x:Int} (h:l[j]? = some x):bits16 (l.take (j + 1))=bits16 (l.take j) ++ bits4 x:=by
 unfold bits16
 rw [take_snoc h,List.flatMap_append]
 simp
theorem inBits_step {ins:List (List Int)} {k:Nat} {l:List Int} (h:ins[k]? = some l):inBits (ins.take (k + 1))=inBits (ins.take k) ++ bits16 l:=by
 unfold inBits bits16
 rw [take_any h,List.flatMap_append]
 simp
theorem inBits_take {ins:List (List Int)} (hi:lnsB ins=true):∀ k,k≤ins.length→(inBits (ins.take k)).length=16 * k
 | 0,_=>rfl
 | k + 1,h=>by
  obtain ⟨l,hl⟩:∃ l,ins[k]? = some l:=⟨_,List.getElem?_eq_getElem (by omega)⟩
  have h1:=List.all_eq_true.1 hi l (List.mem_of_getElem? hl)
  unfold lnB at h1
  rw [Bool.and_eq_true,decide_eq_true_eq] at h1
  rw [inBits_step hl,List.length_append,bits16_len,inBits_take hi k (by omega),h1.1]
  omega
theorem bit_take {x:Int} {m:Nat} (h0:0≤x) (h1:x≤15) (hm:m < 4):(bits4 x).take (m + 1)=(bits4 x).take m ++ [bits .and .i64 (x / 2 ^ m) 1]:=by
 obtain ⟨y,rfl⟩:=Int.eq_ofNat_of_zero_le h0
 have e:∀ z:Nat,z≤15→bits .and .i64 ((z:Nat):Int) 1=((z:Nat):Int) % 2:=fun z hz=>by
  rw [show (1:Int)=((1:Nat):Int) from rfl,and_nat z 1 (by omega) (by omega),Nat.and_one_is_mod]
  omega
 have d:∀ n:Nat,((y:Nat):Int) / ((n:Nat):Int)=((y / n:Nat):Int):=fun n=>by simp
 have l:∀ n:Nat,y / n≤15:=fun n=>Nat.le_trans (Nat.div_le_self _ _) (by omega)
 unfold bits4
 match m,hm with
 | 0,_=>rw [show (2:Int) ^ 0=((1:Nat):Int) from rfl,d,e _ (l _)]; simp
 | 1,_=>rw [show (2:Int) ^ 1=((2:Nat):Int) from rfl,d,e _ (l _)]; simp
 | 2,_=>rw [show (2:Int) ^ 2=((4:Nat):Int) from rfl,d,e _ (l _)]; simp
 | 3,_=>rw [show (2:Int) ^ 3=((8:Nat):Int) from rfl,d,e _ (l _)]; simp
theorem inBits_bits (ins:List (List Int)):bitsB (inBits ins)=true:=by
 unfold bitsB
 rw [List.all_eq_true]
 intro x hx
 have h:=inBits_bit x hx
 unfold Bit at h
 exact inB_iff.2 (by omega)
open Go.RowKit
theorem iNib (A:Option Addr) (c:Nat) (xs:List Int) (w:World) (hc:Cells w w.heap.size A (ints xs)) (hn:xs.length≤1000000000) :
  Calls Tryz.prog 92 #[.slice A xs.length c] w fun e w'=>e=.returned (.bool (nbB xs))∧w=w':=by
 go_enter Tryz.func92,Tryz.ntmps92
 go_wp2
 go_loop [4,7] (fun _ i=>∃ j:Nat,j≤xs.length∧i=.int .i64 j∧nbB (xs.take j)=true) (fun _ i=>xs.length - (intOf i).toNat)
 case atStart=>exact ⟨0,Nat.zero_le _,rfl,rfl⟩
 case round =>
  obtain ⟨j,hj,rfl,hw⟩:=hrel
  by_cases hlt:j < xs.length
  ·obtain ⟨x,hx⟩:∃ x,xs[j]? = some x:=⟨_,List.getElem?_eq_getElem hlt⟩
   obtain ⟨b,off,rfl,hB,hcl⟩:=hc (by rw [ints_length]; omega)
   have hcell:w.cell? ⟨b,off + j,none⟩=some (.int .i64 x):=hcl j _ (ints_get hx)
   have HW:=hid hw
   have HX:=hid hx
   clear hcl hc hw hx
   cases hb:inB x 0 15
   ·go_wp2_with (go_at_call 56; refine (iWithin _ _ _ _).mono ?_; rintro e w' ⟨rfl,rfl⟩)
    go_ret
    exact ⟨ret_bool (by rw [nbB_no HX.out hb]),rfl⟩
   ·go_wp2_with (go_at_call 56; refine (iWithin _ _ _ _).mono ?_; rintro e w' ⟨rfl,rfl⟩)
    go_round
    case rel=>exact ⟨j + 1,by omega,by go_num,nbB_snoc HX.out HW.out hb⟩
    case measure=>simp [intOf]; omega
  ·obtain rfl:j=xs.length:=by omega
   rw [List.take_length] at hw
   have HW:=hid hw
   clear hw
   go_wp2
   go_ret
   exact ⟨ret_bool HW.out.symm,rfl⟩
theorem iInsOk (A:Option Addr) (c:Nat) (ls:List In1) (w:World) (hc:Cells w w.heap.size A (insW ls)) (hi:InsW w w.heap.size ls) (hn:ls.length≤1000000000) (hm:∀ q∈ls,q.2.2.length≤1000000000) :
  Calls Tryz.prog 46 #[.slice A ls.length c] w fun e w'=>e=.returned (.bool (insB (insN ls)))∧w=w':=by
 have HI:=hid hi
 have HM:=hid hm
 clear hi hm
 go_enter Tryz.func46,Tryz.ntmps46
 go_wp2
 go_loop [4,7] (fun _ i=>∃ j:Nat,j≤ls.length∧i=.int .i64 j∧lnsB ((insN ls).take j)=true) (fun _ i=>ls.length - (intOf i).toNat)
 case atStart=>exact ⟨0,Nat.zero_le _,rfl,rfl⟩
 case round =>
  obtain ⟨j,hj,rfl,hw⟩:=hrel
  by_cases hlt:j < ls.length
  ·obtain ⟨⟨A1,c1,xs⟩,hx⟩:∃ x,ls[j]? = some x:=⟨_,List.getElem?_eq_getElem hlt⟩
   obtain ⟨b,off,rfl,hB,hcl⟩:=hc (by rw [insW_length]; omega)
   have hcell:w.cell? ⟨b,off + j,none⟩=some (.slice A1 xs.length c1):=hcl j _ (insW_get hx)
   have HN:=hid (iNib A1 c1 xs w (HI.out _ _ hx) (HM.out _ (List.mem_of_getElem? hx)))
   have HX:=hid (insN_get hx)
   have HW:=hid hw
   have hlt':(j:Int) < (ls.length:Int):=by omega
   clear hcl hc hw hx
   obtain ⟨m,hm⟩:∃ m,xs.length=m:=⟨_,rfl⟩
   by_cases h4:m=4
   ·subst h4
    rw [hm] at hcell HN
    have HL:=hid hm
    clear hm
    cases hb:nbB xs
    ·rw [hb] at HN
     go_wp2_with (go_at_call 92; (with_reducible refine (HN.out).mono ?_); rintro e w' ⟨rfl,rfl⟩)
     go_ret
     exact ⟨ret_bool (by rw [insB_eq,lnsB_no HX.out (by unfold lnB; rw [hb,Bool.and_false]),Bool.false_and]),rfl⟩
    ·rw [hb] at HN
     go_wp2_with (go_at_call 92; (with_reducible refine (HN.out).mono ?_); rintro e w' ⟨rfl,rfl⟩)
     go_round
     case rel=>exact ⟨j + 1,by omega,by go_num,lnsB_snoc HX.out HW.out (by unfold lnB; rw [hb,Bool.and_true]; exact decide_eq_true HL.out)⟩
     case measure=>simp [intOf]; omega
   ·have HL:=hid hm
    rw [hm] at hcell
    have h4':((m:Int) == 4)=false:=by simp; omega
    have h4'':((m:Int) != 4)=true:=by simp; omega
    clear hm
    go_wp2_with fail
    go_ret
    exact ⟨ret_bool (by rw [insB_eq,lnsB_no HX.out (by unfold lnB; rw [decide_eq_false (by rw [HL.out]; exact h4),Bool.false_and]),Bool.false_and]),rfl⟩
  ·obtain rfl:j=ls.length:=by omega
   rw [show ls.length=(insN ls).length from (insN_length ls).symm,List.take_length] at hw
   have HW:=hid hw
   clear hw
   go_wp2
   go_ret
   exact ⟨ret_bool (by rw [insB_eq,HW.out,insN_length,Bool.true_and,Bool.eq_iff_iff,beq_iff_eq,decide_eq_true_eq]; omega),rfl⟩
set_option maxRecDepth 100000 in
set_option maxHeartbeats 3200000 in
theorem iInBits (A:Option Addr) (c:Nat) (ls:List In1) (w:World) (hc:Cells w w.heap.size A (insW ls)) (hi:InsW w w.heap.size ls) (hb:insB (insN ls)=true) :
  Calls Tryz.prog 48 #[.slice A ls.length c] w fun e w'=>∃ A' c',e=.returned (.slice A' 80 c')∧w'.ownsRow w.heap.size 3 1 (.slice A' 80 c') 80 (ints (inBits (insN ls)))∧Below w.heap.size w w':=by
 have hb2:=hb
 rw [insB_eq,Bool.and_eq_true,decide_eq_true_eq,insN_length] at hb2
 obtain ⟨hlb,h5⟩:=hb2
 have h4:∀ q∈ls,q.2.2.length=4∧nbB q.2.2=true:=fun q hq=>by
  have h:=List.all_eq_true.1 hlb q.2.2 (List.mem_map.2 ⟨q,hq,rfl⟩)
  unfold lnB at h
  rw [Bool.and_eq_true,decide_eq_true_eq] at h
  exact h
 have HM:=hid (fun q (hq:q∈ls)=>(show q.2.2.length≤1000000000 by have:=(h4 q hq).1; omega))
 have HI:=hid hi
 have HC:=hid hc
 have HB:=hid hb
 have H4:=hid h4
 have HT:=hid (fun k (hk:k≤5)=>inBits_take hlb k (by rw [insN_length]; omega))
 have HK:=hid (iInsOk A c ls w hc hi (by omega) (fun q hq=>HM.out q hq))
 rw [hb] at HK
 have H5:=hid h5
 simp only [h5] at HK
 rw [h5]
 obtain ⟨ab,ao,rfl,hB,hcl⟩:=hc (by rw [insW_length]; omega)
 clear hlb h5 hi hb h4
 go_enter Tryz.func48,Tryz.ntmps48
 go_wp2_with (go_at_call 46; (with_reducible refine (HK.out).mono ?_); rintro e w' ⟨rfl,rfl⟩)
 go_loopw [3,5,7,8,15,21] (fun o _ _ _ i _ wr=>∃ k:Nat,k≤5∧i=.int .i64 k∧BitsE w (inBits ((insN ls).take k)) (16 * k) o wr) (fun _ _ _ _ i _ _=>5 - (intOf i).toNat)
 case atStart=>exact ⟨0,Nat.zero_le _,rfl,some ⟨w.heap.size,0,none⟩,0,rfl,rfl,own_lit (size:=1) #[] 0 rfl (Nat.le_refl _) (Nat.zero_le _) rfl,(Below.refl _ _).alloc (Nat.le_refl _) _⟩
 case round =>
  obtain ⟨k,hk,rfl,hS⟩:=hrel
  by_cases hlt:k < 5
  ·obtain ⟨⟨A1,c1,l⟩,hq⟩:∃ q,ls[k]? = some q:=⟨_,List.getElem?_eq_getElem (by have:=H5.out; omega)⟩
   obtain ⟨hl4,hln⟩:=H4.out _ (List.mem_of_getElem? hq)
   dsimp only at hl4 hln
   have hst:=inBits_step (insN_get hq)
   dsimp only at hst
   obtain ⟨b',off',rfl,hB',hcl'⟩:=HI.out k _ hq (by dsimp only; rw [ints_length]; omega)
   have d0:=hcl k _ (insW_get hq)
   dsimp only at d0
   rw [hl4] at d0
   have hlt':(k:Int) < 5:=by omega
   have HD:=hid (show Below w.heap.size w wr from by obtain ⟨_,_,_,_,_,h⟩:=hS; exact h)
   have zw:=HD.out.size
   have HS:=hid hS
   have HST:=hid hst
   have d1:wr.cell? ⟨ab,ao + k,none⟩=some (.slice (some ⟨b',off',none⟩) 4 c1):=(HD.out.cell (p:=⟨ab,ao + k,none⟩) hB).trans d0
   have HCL:=hid (fun (j:Nat) (x:Int) (h:l[j]? = some x)=>hcl' j _ (ints_get h))
   have HL:=hid (And.intro hl4 hln)
   have HX:=hid (And.intro hq d0)
   clear hS hq hst hl4 hln hcl' d0
   go_wp2_with fail
   go_loopw [3,7,8,21] (fun o _ _ i wr=>∃ j:Nat,j≤4∧i=.int .i64 j∧BitsE w (inBits ((insN ls).take k) ++ bits16 (l.take j)) (16 * k + 4 * j) o wr) (fun _ _ _ i _=>4 - (intOf i).toNat)
   case atStart=>exact ⟨0,Nat.zero_le _,rfl,by rw [show bits16 (l.take 0)=[] from rfl,List.append_nil]; exact HS.out⟩
   case round =>
    obtain ⟨j,hj,rfl,hS⟩:=hrel
    by_cases hlt2:j < 4
    ·have hlt2':(j:Int) < 4:=by omega
     obtain ⟨x,hx⟩:∃ x,l[j]? = some x:=⟨_,List.getElem?_eq_getElem (by have:=HL.out.1; omega)⟩
     have hx15:=inB_iff.1 (List.all_eq_true.1 HL.out.2 x (List.mem_of_getElem? hx))
     have HS2:=hid (And.intro hS (bits16_step hx))
     have HD2:=hid (show Below w.heap.size w wr from by obtain ⟨_,_,_,_,_,h⟩:=hS; exact h)
     have zw2:=HD2.out.size
     have d2:wr.cell? ⟨b',off' + j,none⟩=some (.int .i64 x):=(HD2.out.cell (p:=⟨b',off' + j,none⟩) hB').trans (HCL.out j x hx)
     have HX2:=hid hx
     clear hS hx d1
     go_wp2_with fail
     go_loopw [3,8] (fun o i wr=>∃ m:Nat,m≤4∧i=.int .i64 m∧BitsE w (inBits ((insN ls).take k) ++ bits16 (l.take j) ++ (bits4 x).take m) (16 * k + 4 * j + m) o wr) (fun _ i _=>4 - (intOf i).toNat)
     case atStart=>exact ⟨0,Nat.zero_le _,rfl,by rw [List.take_zero,List.append_nil]; exact HS2.out.1⟩
     case round =>
      obtain ⟨m,hm,rfl,A',c',hlen,rfl,hown,hbw⟩:=hrel
      have zw3:=hbw.size
      obtain ⟨xs,hxs⟩:∃ q,inBits ((insN ls).take k) ++ bits16 (l.take j) ++ (bits4 x).take m=q:=⟨_,rfl⟩
      rw [hxs] at hlen hown
      by_cases hlt3:m < 4
      ·have hlt3':(m:Int) < 4:=by omega
       have hbt:=bit_take hx15.1 hx15.2 hlt3
       have HE:=hid (show inBits ((insN ls).take k) ++ bits16 (l.take j) ++ (bits4 x).take (m + 1)=xs ++ [bits .and .i64 (x / 2 ^ m) 1] by rw [hbt,←List.append_assoc,hxs])
       have d1:wr.cell? ⟨ab,ao + k,none⟩=some (.slice (some ⟨b',off',none⟩) 4 c1):=(hbw.cell (p:=⟨ab,ao + k,none⟩) hB).trans HX.out.2
       have d3:wr.cell? ⟨b',off' + j,none⟩=some (.int .i64 x):=(hbw.cell (p:=⟨b',off' + j,none⟩) hB').trans (HCL.out j x HX2.out)
       have HO:=hid (And.intro hown (And.intro hbw hlen))
       clear hbt hxs hown hbw hlen d2
       go_wp2_with (at_builtin; refine app_inti rfl _ _ rfl (base:=w.heap.size) (L:=xs) (v:=Value.slice A' (16 * k + 4 * j + m) c') rfl (HO.out.1.alloc _) (by simp; omega) [bits .and .i64 (x / 2 ^ m) 1] rfl rfl (top_cells _ [_] _) (by omega) ?_)
       intro A3 c3 w3 ho3 hg3 hl3
       have hlo:=own_in HO.out.1
       have HF:=hid (And.intro ho3 (gr_below (grown_alloc hg3) HO.out.2.1 (by omega) (fun p hp=>by have:=(hlo p hp).1; omega)))
       clear ho3 hg3 hl3 hlo d1 d3
       go_wp2
       go_roundw
       case rel=>exact ⟨m + 1,by omega,by go_num,A3,c3,by rw [HE.out,List.length_append,HO.out.2.2]; rfl,rfl,by rw [HE.out]; exact HF.out.1,HF.out.2⟩
       case measure=>simp [intOf]; omega
      ·obtain rfl:m=4:=by omega
       have HF:=hid (And.intro hown (And.intro hbw (And.intro hlen hxs)))
       clear hown hbw hlen hxs d2
       go_wp2
       go_roundw
       case rel =>
        have e:inBits ((insN ls).take k) ++ bits16 (l.take (j + 1))=xs:=by rw [HS2.out.2,←List.append_assoc]; exact HF.out.2.2.2
        exact ⟨j + 1,by omega,by go_num,A',c',by rw [e]; exact HF.out.2.2.1,rfl,by rw [e]; exact HF.out.1,HF.out.2.1⟩
       case measure=>simp [intOf]; omega
    ·obtain rfl:j=4:=by omega
     have HS2:=hid hS
     clear hS d1
     go_wp2
     go_roundw
     case rel =>
      refine ⟨k + 1,by omega,by go_num,?_⟩
      have h:=HS2.out
      rw [show l.take 4=l by rw [←HL.out.1,List.take_length],←HST.out] at h
      exact h
     case measure=>simp [intOf]; omega
  ·obtain rfl:k=5:=by omega
   have h:=hS
   rw [show (insN ls).take 5=insN ls by rw [←H5.out,←insN_length,List.take_length]] at h
   obtain ⟨A',c',hlen,rfl,hown,hbw⟩:=h
   have HF:=hid (And.intro hown hbw)
   clear hS hown hbw hlen
   go_wp2
   go_ret
   exact ⟨A',c',rfl,HF.out.1,HF.out.2⟩
open Go.RowKit
theorem sNib (A:Option Addr) (c:Nat) (xs:List Int) (w:World) (hc:Cells w w.heap.size A (ints xs)) (hn:xs.length≤1000000000) :
  Calls Tryz.prog 84 #[.slice A xs.length c] w fun e w'=>e=.returned (.bool (nbB xs))∧w=w':=by
 go_enter Tryz.func84,Tryz.ntmps84
 go_wp2
 go_loop [3] (fun i=>∃ j:Nat,j≤xs.length∧i=.int .i64 j∧nbB (xs.take j)=true) (fun i=>xs.length - (intOf i).toNat)
 case atStart=>exact ⟨0,Nat.zero_le _,rfl,rfl⟩
 case round =>
  obtain ⟨j,hj,rfl,hw⟩:=hrel
  by_cases hlt:j < xs.length
  ·obtain ⟨x,hx⟩:∃ x,xs[j]? = some x:=⟨_,List.getElem?_eq_getElem hlt⟩
   obtain ⟨b,off,rfl,hB,hcl⟩:=hc (by rw [ints_length]; omega)
   have hcell:w.cell? ⟨b,off + j,none⟩=some (.int .i64 x):=hcl j _ (ints_get hx)
   have HW:=hid hw
   have HX:=hid hx
   clear hcl hc hw hx
   cases hb:inB x 0 15
   ·go_wp2_with (go_at_call 123; refine (sWithin _ _ _ _).mono ?_; rintro e w' ⟨rfl,rfl⟩)
    go_ret
    exact ⟨ret_bool (by rw [nbB_no HX.out hb]),rfl⟩
   ·go_wp2_with (go_at_call 123; refine (sWithin _ _ _ _).mono ?_; rintro e w' ⟨rfl,rfl⟩)
    go_round
    case rel=>exact ⟨j + 1,by omega,by go_num,nbB_snoc HX.out HW.out hb⟩
    case measure=>simp [intOf]; omega
  ·obtain rfl:j=xs.length:=by omega
   rw [List.take_length] at hw
   have HW:=hid hw
   clear hw
   go_wp2
   go_ret
   exact ⟨ret_bool HW.out.symm,rfl⟩
theorem sInsOk (A:Option Addr) (c:Nat) (ls:List In1) (w:World) (hc:Cells w w.heap.size A (insW ls)) (hi:InsW w w.heap.size ls) (hn:ls.length≤1000000000) (hm:∀ q∈ls,q.2.2.length≤1000000000) :
  Calls Tryz.prog 42 #[.slice A ls.length c] w fun e w'=>e=.returned (.bool (insB (insN ls)))∧w=w':=by
 have HI:=hid hi
 have HM:=hid hm
 clear hi hm
 go_enter Tryz.func42,Tryz.ntmps42
 go_wp2
 go_loop [3] (fun i=>∃ j:Nat,j≤ls.length∧i=.int .i64 j∧lnsB ((insN ls).take j)=true) (fun i=>ls.length - (intOf i).toNat)
 case atStart=>exact ⟨0,Nat.zero_le _,rfl,rfl⟩
 case round =>
  obtain ⟨j,hj,rfl,hw⟩:=hrel
  by_cases hlt:j < ls.length
  ·obtain ⟨⟨A1,c1,xs⟩,hx⟩:∃ x,ls[j]? = some x:=⟨_,List.getElem?_eq_getElem hlt⟩
   obtain ⟨b,off,rfl,hB,hcl⟩:=hc (by rw [insW_length]; omega)
   have hcell:w.cell? ⟨b,off + j,none⟩=some (.slice A1 xs.length c1):=hcl j _ (insW_get hx)
   have HN:=hid (sNib A1 c1 xs w (HI.out _ _ hx) (HM.out _ (List.mem_of_getElem? hx)))
   have HX:=hid (insN_get hx)
   have HW:=hid hw
   have hlt':(j:Int) < (ls.length:Int):=by omega
   clear hcl hc hw hx
   obtain ⟨m,hm⟩:∃ m,xs.length=m:=⟨_,rfl⟩
   by_cases h4:m=4
   ·subst h4
    rw [hm] at hcell HN
    have HL:=hid hm
    clear hm
    cases hb:nbB xs
    ·rw [hb] at HN
     go_wp2_with (go_at_call 84; (with_reducible refine (HN.out).mono ?_); rintro e w' ⟨rfl,rfl⟩)
     go_ret
     exact ⟨ret_bool (by rw [insB_eq,lnsB_no HX.out (by unfold lnB; rw [hb,Bool.and_false]),Bool.false_and]),rfl⟩
    ·rw [hb] at HN
     go_wp2_with (go_at_call 84; (with_reducible refine (HN.out).mono ?_); rintro e w' ⟨rfl,rfl⟩)
     go_round
     case rel=>exact ⟨j + 1,by omega,by go_num,lnsB_snoc HX.out HW.out (by unfold lnB; rw [hb,Bool.and_true]; exact decide_eq_true HL.out)⟩
     case measure=>simp [intOf]; omega
   ·have HL:=hid hm
    rw [hm] at hcell
    have h4':((m:Int) == 4)=false:=by simp; omega
    have h4'':((m:Int) != 4)=true:=by simp; omega
    clear hm
    go_wp2_with fail
    go_ret
    exact ⟨ret_bool (by rw [insB_eq,lnsB_no HX.out (by unfold lnB; rw [decide_eq_false (by rw [HL.out]; exact h4),Bool.false_and]),Bool.false_and]),rfl⟩
  ·obtain rfl:j=ls.length:=by omega
   rw [show ls.length=(insN ls).length from (insN_length ls).symm,List.take_length] at hw
   have HW:=hid hw
   clear hw
   go_wp2
   go_ret
   exact ⟨ret_bool (by rw [insB_eq,HW.out,insN_length,Bool.true_and,Bool.eq_iff_iff,beq_iff_eq,decide_eq_true_eq]; omega),rfl⟩
open Go.RowKit
inductive GSpec where
 | det
 | con (c:Value)
 | any (F:Value→World→Prop)
def Facts:=Nat→World→Prop
def Facts.none:Facts:=fun _ _=>True
def Facts.upd (fs:Facts) (k:Nat) (f:World→Prop):Facts:=fun j=>if j=k then f else fs j
theorem Facts.upd_comm (fs:Facts) {i j:Nat} (h:i≠j) (f g:World→Prop):(fs.upd i f).upd j g=(fs.upd j g).upd i f:=by
 funext q
 unfold Facts.upd
 by_cases h1:q=j
 ·by_cases h2:q=i
  ·omega
  ·simp [h1,Ne.symm h]
 ·by_cases h2:q=i
  ·simp [h2,h]
  ·simp [h1,h2]
theorem Facts.upd_ne (fs:Facts) {i j:Nat} (h:i≠j) (f:World→Prop):fs.upd i f j=fs j:=by
 unfold Facts.upd
 simp [Ne.symm h]
theorem Facts.upd_self (fs:Facts) (i:Nat) (f:World→Prop):fs.upd i f i=f:=by
 unfold Facts.upd
 simp
def waits (ops:Array Oper) (j i:Nat):Bool:=Region.waitsFor .any ops j i
def detUpon (w:World) (v:Value):Result Next→Prop
 | .ok (.value u) w'=>w'=w∧u=v
 | .ok .skip w'=>w'=w∧v=undef
 | _=>False
def growUpon (P:Program) (R:World→World→Prop) (F:Value→World→Prop) (w:World):Result Next→Prop
 | .ok (.value u) w'=>R w w'∧F u w'
 | .ok .skip w'=>R w w'∧F undef w'
 | .ok (.enter f args) w'=>Calls P f args w' (fun e w''=>∃ v,e=.returned v∧R w w''∧F v w'')
 | _=>False
def depsHold (ops:Array Oper) (k:Nat) (fs:Facts) (w:World):Prop:=∀ j,waits ops k j=true→fs j w
section
variable (P:Program) (ops:Array Oper) (C:World→Prop) (R:World→World→Prop) (spec:Nat→GSpec)
def gStep (fs:Facts) (k:Nat) (o:Oper) (K:Facts→Act→Prop) (a:Act):Prop :=
 if Region.wanted o (yielded ops a.tmps)=true then
  match spec k with
  | .det=>∃ c,(∀ w,C w→detUpon w c ((execOp a.eval o).run P w))∧K fs (a.put o.dst c)
  | .con c=>(∀ w,C w→depsHold ops k fs w→growUpon P R (fun v _=>v=c) w ((execOp a.eval o).run P w))∧K fs (a.put o.dst c)
  | .any F=>(∀ w,C w→depsHold ops k fs w→growUpon P R F w ((execOp a.eval o).run P w))∧∀ v,K (fs.upd k (F v)) (a.put o.dst v)
 else K fs (a.put o.dst undef)
def gOut (fs:Facts) (k:Nat) (o:Oper) (K:Facts→Act→Prop) (a:Act) (w:World):Prop :=
 if Region.wanted o (yielded ops a.tmps)=true then
  match spec k with
  | .det=>∃ c,detUpon w c ((execOp a.eval o).run P w)∧K fs (a.put o.dst c)
  | .con c=>growUpon P R (fun v _=>v=c) w ((execOp a.eval o).run P w)∧K fs (a.put o.dst c)
  | .any F=>growUpon P R F w ((execOp a.eval o).run P w)∧∀ v,K (fs.upd k (F v)) (a.put o.dst v)
 else K fs (a.put o.dst undef)
def gWalk (E:Facts→Act→Prop):List Nat→Facts→Act→Prop
 | [],fs,a=>E fs a
 | k :: is,fs,a=>match ops[k]? with
  | none=>gWalk E is fs a
  | some o=>gStep P ops C R spec fs k o (fun fs' a'=>gWalk E is fs' a') a
def gList (E:Facts→Act→Prop):Nat→List Oper→Facts→Act→Prop
 | _,[],fs,a=>E fs a
 | k,o :: l,fs,a=>gStep P ops C R spec fs k o (fun fs' a'=>gList E (k + 1) l fs' a') a
end
section
variable {P:Program} {ops:Array Oper} {C:World→Prop} {R:World→World→Prop} {spec:Nat→GSpec}
theorem detUpon_same {w:World} {v u:Value} {r:Result Next} (h:detUpon w v r) (h':detUpon w u r):v=u:=by
 cases r with
 | ok n w' =>
  cases n <;> simp only [detUpon] at h h'
  ·exact h.2.symm.trans h'.2
  ·exact h.2.trans h'.2.symm
 | halt x w'=>simp only [detUpon] at h
theorem gOut_of_step {fs:Facts} {k:Nat} {o:Oper} {K:Facts→Act→Prop} {a:Act} {w:World} (hC:C w) (hd:depsHold ops k fs w) (h:gStep P ops C R spec fs k o K a):gOut P ops R spec fs k o K a w:=by
 unfold gStep at h
 unfold gOut
 split
 ·rename_i hw
  rw [if_pos hw] at h
  split
  ·rename_i hs
   rw [hs] at h
   obtain ⟨c,h1,h2⟩:=h
   exact ⟨c,h1 w hC,h2⟩
  ·rename_i c hs
   rw [hs] at h
   exact ⟨h.1 w hC hd,h.2⟩
  ·rename_i F hs
   rw [hs] at h
   exact ⟨h.1 w hC hd,h.2⟩
 ·rename_i hw
  rw [if_neg hw] at h
  exact h
theorem gPull {E:Facts→Act→Prop} (hsel:Region.noSelect ops=true) {j:Nat} {oj:Oper} (hj:ops[j]? = some oj) {is2:List Nat} {w:World} (hC:C w) :
  ∀ (is1:List Nat) (fs:Facts) (a:Act),(∀ i∈is1,i≠j∧waits ops j i=false∧waits ops i j=false∧∀ oi,ops[i]? = some oi→oi.apart ops oj=true) →
   depsHold ops j fs w→gWalk P ops C R spec E (is1 ++ j :: is2) fs a→gOut P ops R spec fs j oj (fun fs' a'=>gWalk P ops C R spec E (is1 ++ is2) fs' a') a w:=by
 intro is1
 induction is1 with
 | nil =>
  intro fs a _ hd h
  simp only [List.nil_append,gWalk,hj] at h ⊢
  exact gOut_of_step hC hd h
 | cons i is1 ih =>
  intro fs a hall hd h
  obtain ⟨hij,hji,hijw,hap⟩:=hall i (by simp)
  have hall':=fun k (hk:k∈is1)=>hall k (by simp [hk])
  simp only [List.cons_append,gWalk] at h ⊢
  cases hi:ops[i]? with
  | none =>
   simp only [hi] at h ⊢
   exact ih fs a hall' hd h
  | some oi =>
   simp only [hi] at h ⊢
   obtain ⟨h1,h2,h3⟩:=Oper.apart_spec (hap oi hi)
   have hsi:=fun cs b=>Region.noSelect_spec hsel i oi cs b hi
   have hsj:=fun cs b=>Region.noSelect_spec hsel j oj cs b hj
   have ei:∀ (a:Act) (v:Value),execOp (a.put oj.dst v).eval oi=execOp a.eval oi:=fun a v=>execOp_put (ops:=ops) oi hsi a oj.dst v h3
   have wi:∀ (a:Act) (v:Value),Region.wanted oi (yielded ops (a.put oj.dst v).tmps)=Region.wanted oi (yielded ops a.tmps):=fun a v=>wanted_put oi a oj.dst v h3
   have ej:∀ (a:Act) (v:Value),execOp (a.put oi.dst v).eval oj=execOp a.eval oj:=fun a v=>execOp_put (ops:=ops) oj hsj a oi.dst v h1
   have wj:∀ (a:Act) (v:Value),Region.wanted oj (yielded ops (a.put oi.dst v).tmps)=Region.wanted oj (yielded ops a.tmps):=fun a v=>wanted_put oj a oi.dst v h1
   have comm:∀ (a:Act) (u v:Value),(a.put oi.dst u).put oj.dst v=(a.put oj.dst v).put oi.dst u:=fun a u v=>Act.put_comm a u v h2
   have dkeep:∀ (fs:Facts) (f:World→Prop) (w:World),depsHold ops i (fs.upd j f) w→depsHold ops i fs w:=fun fs f w hh q hq=>by
    have:=hh q hq
    rwa [Facts.upd_ne _ (fun e=>by rw [e] at hijw; rw [hijw] at hq; cases hq)] at this
   have dj:∀ (f:World→Prop),depsHold ops j (fs.upd i f) w:=fun f q hq=>by
    rw [Facts.upd_ne _ (fun e=>by rw [e] at hji; rw [hji] at hq; cases hq)]
    exact hd q hq
   -- a step of i behind j
   have fold:∀ (fs:Facts) (v:Value),gStep P ops C R spec fs i oi (fun fs' a'=>gWalk P ops C R spec E (is1 ++ is2) fs' a') (a.put oj.dst v) =
     (if Region.wanted oi (yielded ops a.tmps)=true then
      match spec i with
      | .det=>∃ c,(∀ w,C w→detUpon w c ((execOp a.eval oi).run P w))∧gWalk P ops C R spec E (is1 ++ is2) fs ((a.put oi.dst c).put oj.dst v)
      | .con c=>(∀ w,C w→depsHold ops i fs w→growUpon P R (fun v _=>v=c) w ((execOp a.eval oi).run P w))∧gWalk P ops C R spec E (is1 ++ is2) fs ((a.put oi.dst c).put oj.dst v)
      | .any F=>(∀ w,C w→depsHold ops i fs w→growUpon P R F w ((execOp a.eval oi).run P w))∧∀ u,gWalk P ops C R spec E (is1 ++ is2) (fs.upd i (F u)) ((a.put oi.dst u).put oj.dst v)
     else gWalk P ops C R spec E (is1 ++ is2) fs ((a.put oi.dst undef).put oj.dst v)):=by
    intro fs v
    unfold gStep
    rw [wi]
    simp only [ei,comm]
   unfold gStep at h
   by_cases hwi:Region.wanted oi (yielded ops a.tmps)=true
   ·rw [if_pos hwi] at h
    simp only [gOut,fold,if_pos hwi]
    cases hs:spec i with
    | det =>
     simp only [hs] at h ⊢
     obtain ⟨c,hc,h⟩:=h
     have h:=ih fs _ hall' hd h
     unfold gOut at h
     rw [wj] at h
     simp only [ej] at h
     split
     ·rename_i hwj
      rw [if_pos hwj] at h
      cases hsj':spec j with
      | det =>
       simp only [hsj'] at h ⊢
       obtain ⟨c',g1,g2⟩:=h
       exact ⟨c',g1,c,hc,g2⟩
      | con c' =>
       simp only [hsj'] at h ⊢
       exact ⟨h.1,c,hc,h.2⟩
      | any F =>
       simp only [hsj'] at h ⊢
       exact ⟨h.1,fun v=>⟨c,hc,h.2 v⟩⟩
     ·rename_i hwj
      rw [if_neg hwj] at h
      exact ⟨c,hc,h⟩
    | con c =>
     simp only [hs] at h ⊢
     obtain ⟨hc,h⟩:=h
     have h:=ih fs _ hall' hd h
     unfold gOut at h
     rw [wj] at h
     simp only [ej] at h
     split
     ·rename_i hwj
      rw [if_pos hwj] at h
      cases hsj':spec j with
      | det =>
       simp only [hsj'] at h ⊢
       obtain ⟨c',g1,g2⟩:=h
       exact ⟨c',g1,hc,g2⟩
      | con c' =>
       simp only [hsj'] at h ⊢
       exact ⟨h.1,hc,h.2⟩
      | any F =>
       simp only [hsj'] at h ⊢
       exact ⟨h.1,fun v=>⟨fun w hw hd=>hc w hw (dkeep _ _ _ hd),h.2 v⟩⟩
     ·rename_i hwj
      rw [if_neg hwj] at h
      exact ⟨hc,h⟩
    | any F =>
     simp only [hs] at h ⊢
     obtain ⟨hc,h⟩:=h
     have h:=fun u=>ih (fs.upd i (F u)) _ hall' (dj _) (h u)
     simp only [gOut,wj,ej] at h
     split
     ·rename_i hwj
      simp only [if_pos hwj] at h
      cases hsj':spec j with
      | det =>
       simp only [hsj'] at h ⊢
       obtain ⟨c',g1,_⟩:=h undef
       refine ⟨c',g1,hc,fun u=>?_⟩
       obtain ⟨c2,k1,k2⟩:=h u
       rw [detUpon_same g1 k1]
       exact k2
      | con c' =>
       simp only [hsj'] at h ⊢
       exact ⟨(h undef).1,hc,fun u=>(h u).2⟩
      | any F' =>
       simp only [hsj'] at h ⊢
       refine ⟨(h undef).1,fun v=>⟨fun w hw hd=>hc w hw (dkeep _ _ _ hd),fun u=>?_⟩⟩
       have:=(h u).2 v
       rwa [Facts.upd_comm _ hij] at this
     ·rename_i hwj
      simp only [if_neg hwj] at h
      exact ⟨hc,h⟩
   ·rw [if_neg hwi] at h
    simp only [gOut,fold,if_neg hwi]
    have h:=ih fs _ hall' hd h
    unfold gOut at h
    rw [wj] at h
    simp only [ej] at h
    split
    ·rename_i hwj
     rw [if_pos hwj] at h
     exact h
    ·rename_i hwj
     rw [if_neg hwj] at h
     exact h
end
open Go.RowKit
def heads (n:Nat) (listed:Array Bool):List Nat:=(List.range n).filter fun i=>!listed.getD i true
theorem mem_heads {n i:Nat} {listed:Array Bool}:i∈heads n listed↔i < n∧listed.getD i true=false:=by
 unfold heads
 rw [List.mem_filter,List.mem_range]
 simp
theorem heads_sorted (n:Nat) (listed:Array Bool):(heads n listed).Pairwise (· < ·):=List.Pairwise.filter _ List.pairwise_lt_range
theorem heads_set {n j:Nat} {listed:Array Bool} {s t:List Nat} (hsz:j < listed.size) (h:heads n listed=s ++ j :: t):heads n (listed.setIfInBounds j true)=s ++ t:=by
 have hs:=heads_sorted n listed
 rw [h,List.pairwise_append] at hs
 obtain ⟨h1,h2,h3⟩:=hs
 rw [List.pairwise_cons] at h2
 have e:heads n (listed.setIfInBounds j true)=(heads n listed).filter fun i=>decide (i≠j):=by
  unfold heads
  rw [List.filter_filter]
  refine List.filter_congr fun i _=>?_
  by_cases hij:i=j
  ·subst hij
   have:(listed.setIfInBounds i true).getD i true=true:=by simp [hsz]
   rw [this]
   simp
  ·rw [getD_set_ne true (fun e=>hij e.symm)]
   simp [hij]
 rw [e,h,List.filter_append,List.filter_cons]
 have e1:s.filter (fun i=>decide (i≠j))=s:=List.filter_eq_self.2 fun i hi=>by
  have:=h3 i hi j (by simp)
  simp
  omega
 have e2:t.filter (fun i=>decide (i≠j))=t:=List.filter_eq_self.2 fun i hi=>by
  have:=h2.1 i hi
  simp
  omega
 rw [e1,e2]
 simp
theorem getD_both' {listed:Array Bool} {i:Nat} (h:listed.getD i true=true) (hi:i < listed.size):listed.getD i false=true:=by
 simp [hi] at h ⊢
 exact h
def topoB (ops:Array Oper):Bool:=(List.range ops.size).all fun k=>match ops[k]? with
 | some o=>o.after.all fun e=>!Region.binds .any e || decide (e.on < k)
 | none=>true
theorem topo_spec {ops:Array Oper} (h:topoB ops=true) {k:Nat} {o:Oper} (hk:ops[k]? = some o):∀ e∈o.after,Region.binds .any e=true→e.on < k:=by
 intro e he hb
 have hlt:k < ops.size:=(Array.getElem?_eq_some_iff.1 hk).1
 have h1:=List.all_eq_true.1 h k (List.mem_range.2 hlt)
 simp only [hk] at h1
 have h2:=Array.all_eq_true'.1 h1 e he
 simp only [hb,Bool.not_true,Bool.false_or,decide_eq_true_eq] at h2
 exact h2
def apartB (ops:Array Oper) (n:Nat):Bool:=(List.range n).all fun j=>(List.range j).all fun i=>waits ops j i || match ops[i]?,ops[j]? with
 | some oi,some oj=>oi.apart ops oj
 | _,_=>true
theorem apart_of {ops:Array Oper} {n:Nat} (h:apartB ops n=true) {i j:Nat} (hij:i < j) (hj:j < n) (hw:waits ops j i=false) {oi oj:Oper} (hi:ops[i]? = some oi) (ho:ops[j]? = some oj):oi.apart ops oj=true:=by
 have h1:=List.all_eq_true.1 (List.all_eq_true.1 h j (List.mem_range.2 hj)) i (List.mem_range.2 hij)
 simpa [hw,hi,ho] using h1
section
variable {P:Program} {ops:Array Oper} {C:World→Prop} {R:World→World→Prop} {spec:Nat→GSpec} {Q:Exit→Act→World→Prop}
theorem waits_listed {listed:Array Bool} {j i:Nat} (hj:j∈Region.ready .any ops listed) (hi:listed.getD i true=false):waits ops j i=false:=by
 cases hw:waits ops j i
 ·rfl
 ·obtain ⟨oj,hoj,e,he,hb,hon⟩:=Region.waitsFor_spec hw
  obtain ⟨_,o,ho,hall⟩:=mem_ready.1 hj
  have:o=oj:=Option.some.inj (ho.symm.trans hoj)
  subst this
  have h2:=hall e he hb
  rw [hon,getD_both hi] at h2
  cases h2
theorem gAny {n g:Nat} {E:Facts→Act→Prop} (hn:n≤ops.size) (hsel:Region.noSelect ops=true) (htopo:topoB ops=true) (hap:apartB ops n=true)
  (hCR:∀ w w',C w→R w w'→C w') (hstab:∀ k F,spec k=.any F→∀ v w w',F v w→R w w'→F v w')
  (hend:∀ listed fs a w,HeadInv .any ops n listed→heads n listed=[]→C w→(∀ j,fs j w)→E fs a→wpAny P .any ops Q g listed a w)
  (hsink:∀ listed,HeadInv .any ops n listed→heads n listed≠[]→∀ t∈Region.ready .any ops listed,t < n) :
  ∀ (m:Nat) (listed:Array Bool) (fs:Facts) (a:Act) (w:World),HeadInv .any ops n listed→(heads n listed).length=m→gWalk P ops C R spec E (heads n listed) fs a →
   C w→(∀ j,fs j w)→(∀ j w w',fs j w→R w w'→fs j w')→wpAny P .any ops Q (m + g) listed a w:=by
 intro m
 induction m with
 | zero =>
  intro listed fs a w inv hl h hC hfs _
  have hnil:heads n listed=[]:=List.length_eq_zero_iff.1 hl
  rw [hnil] at h
  rw [Nat.zero_add]
  exact hend listed fs a w inv hnil hC hfs h
 | succ m ih =>
  intro listed fs a w inv hl h hC hfs hst
  rw [show m + 1 + g=(m + g) + 1 by omega]
  have hne:heads n listed≠[]:=by intro e; rw [e] at hl; simp at hl
  refine ⟨fun h0=>?_,fun j hj=>?_⟩
  ·exfalso
   obtain ⟨k,t,hkt⟩:∃ k t,heads n listed=k :: t:=by
    cases hh:heads n listed with
    | nil=>exact absurd hh hne
    | cons k t=>exact ⟨k,t,rfl⟩
   have hk:=mem_heads.1 (show k∈heads n listed by rw [hkt]; simp)
   have hks:k < ops.size:=by omega
   have hmem:k∈Region.ready .any ops listed:=by
    refine mem_ready.2 ⟨hk.2,_,Array.getElem?_eq_getElem hks,fun e he hb=>?_⟩
    have hlt:=topo_spec htopo (Array.getElem?_eq_getElem hks) e he hb
    cases hl':listed.getD e.on true with
    | true=>exact getD_both' hl' (by rw [inv.size]; omega)
    | false =>
     have hin:e.on∈heads n listed:=mem_heads.2 ⟨by omega,hl'⟩
     have hs:=heads_sorted n listed
     rw [hkt] at hs hin
     rw [List.pairwise_cons] at hs
     simp only [List.mem_cons] at hin
     rcases hin with e1 | e1
     ·omega
     ·have:=hs.1 _ e1
      omega
   rw [h0] at hmem
   cases hmem
  ·have hjn:=hsink listed inv hne j hj
   have hjl:=(mem_ready.1 hj).1
   obtain ⟨s,t,hst'⟩:=List.append_of_mem (mem_heads.2 ⟨hjn,hjl⟩)
   obtain ⟨_,oj,hoj,_⟩:=mem_ready.1 hj
   have hsorted:=heads_sorted n listed
   rw [hst',List.pairwise_append] at hsorted
   have hlt:∀ i∈s,i < j:=fun i hi=>hsorted.2.2 i hi j (by simp)
   have hall:∀ i∈s,i≠j∧waits ops j i=false∧waits ops i j=false∧∀ oi,ops[i]? = some oi→oi.apart ops oj=true:=by
    intro i hi
    have hij:=hlt i hi
    have hil:=(mem_heads.1 (show i∈heads n listed by rw [hst']; simp [hi])).2
    have hw:=waits_listed hj hil
    refine ⟨by omega,hw,?_,fun oi hoi=>apart_of hap hij hjn hw hoi hoj⟩
    cases hw':waits ops i j
    ·rfl
    ·obtain ⟨oi,hoi,e,he,hb,hon⟩:=Region.waitsFor_spec hw'
     have:=topo_spec htopo hoi e he hb
     omega
   rw [hst'] at h
   have hdeps:depsHold ops j fs w:=fun q _=>hfs q
   have hout:=gPull hsel hoj hC s fs a hall hdeps h
   have hjs:j < listed.size:=by rw [inv.size]; omega
   have hset:=heads_set hjs hst'
   have inv':=inv.set hj hjn
   have hlen:(s ++ t).length=m:=by
    rw [hst'] at hl
    simp at hl ⊢
    omega
   have go:∀ (fs':Facts) (a':Act) (w':World),gWalk P ops C R spec E (s ++ t) fs' a'→C w'→(∀ j,fs' j w')→(∀ j w w',fs' j w→R w w'→fs' j w') →
     wpAny P .any ops Q (m + g) (listed.setIfInBounds j true) a' w':=fun fs' a' w' h1 h2 h3 h4 =>
    ih _ fs' a' w' inv' (by rw [hset]; exact hlen) (by rw [hset]; exact h1) h2 h3 h4
   have keep:∀ w',R w w'→∀ q,fs q w':=fun w' hR q=>hst q w w' (hfs q) hR
   unfold wpOp
   simp only [hoj]
   unfold gOut at hout
   split
   ·rename_i hw
    rw [if_pos hw] at hout
    left
    unfold Oper.wp
    generalize (execOp a.eval oj).run P w=r at hout ⊢
    cases hs:spec j with
    | det =>
     simp only [hs] at hout
     obtain ⟨c,h1,h2⟩:=hout
     cases r with
     | ok nx w' =>
      cases nx <;> simp only [detUpon] at h1
      ·obtain ⟨e1,e2⟩:=h1
       subst e1 e2
       exact go fs _ w' h2 hC hfs hst
      ·obtain ⟨e1,e2⟩:=h1
       subst e1 e2
       exact go fs _ w' h2 hC hfs hst
     | halt x w'=>simp only [detUpon] at h1
    | con c =>
     simp only [hs] at hout
     obtain ⟨h1,h2⟩:=hout
     cases r with
     | ok nx w' =>
      cases nx <;> simp only [growUpon] at h1
      case value u =>
       obtain ⟨hR,e⟩:=h1
       subst e
       exact go fs _ w' h2 (hCR _ _ hC hR) (keep w' hR) hst
      case skip =>
       obtain ⟨hR,e⟩:=h1
       subst e
       exact go fs _ w' h2 (hCR _ _ hC hR) (keep w' hR) hst
      case enter f args =>
       refine Calls.mono h1 fun e w'' he=>?_
       obtain ⟨v,rfl,hR,e⟩:=he
       subst e
       exact go fs _ w'' h2 (hCR _ _ hC hR) (keep w'' hR) hst
     | halt x w'=>simp only [growUpon] at h1
    | any F =>
     simp only [hs] at hout
     obtain ⟨h1,h2⟩:=hout
     have upd:∀ v w',R w w'→F v w'→(∀ q,(fs.upd j (F v)) q w'):=fun v w' hR hF q=>by
      by_cases hq:q=j
      ·subst hq
       rw [Facts.upd_self]
       exact hF
      ·rw [Facts.upd_ne _ (fun e=>hq e.symm)]
       exact keep w' hR q
     have updS:∀ v,∀ q w w',(fs.upd j (F v)) q w→R w w'→(fs.upd j (F v)) q w':=fun v q w w' h3 hR=>by
      by_cases hq:q=j
      ·subst hq
       rw [Facts.upd_self] at *
       exact hstab _ F hs v w w' h3 hR
      ·rw [Facts.upd_ne _ (fun e=>hq e.symm)] at *
       exact hst q w w' h3 hR
     cases r with
     | ok nx w' =>
      cases nx <;> simp only [growUpon] at h1
      case value u =>
       exact go _ _ w' (h2 u) (hCR _ _ hC h1.1) (upd u w' h1.1 h1.2) (updS u)
      case skip =>
       exact go _ _ w' (h2 undef) (hCR _ _ hC h1.1) (upd undef w' h1.1 h1.2) (updS undef)
      case enter f args =>
       refine Calls.mono h1 fun e w'' he=>?_
       obtain ⟨v,rfl,hR,hF⟩:=he
       exact go _ _ w'' (h2 v) (hCR _ _ hC hR) (upd v w'' hR hF) (updS v)
     | halt x w'=>simp only [growUpon] at h1
   ·rename_i hw
    rw [if_neg hw] at hout
    exact go fs _ w hout hC hfs hst
theorem gList_walk {E:Facts→Act→Prop} {n:Nat}:∀ (l:List Oper) (k:Nat) (fs:Facts) (a:Act),(∀ j,j < l.length→l[j]? = ops[k + j]?) →
  gList P ops C R spec E k l fs a→gWalk P ops C R spec E (List.range' k l.length) fs a
 | [],_,_,_,_,h=>h
 | o :: l,k,fs,a,hl,h=>by
  have h0:ops[k]? = some o:=by simpa using (hl 0 (by simp)).symm
  simp only [List.length_cons,List.range'_succ,gWalk,h0]
  unfold gList at h
  have mono:∀ (K K':Facts→Act→Prop),(∀ fs a,K fs a→K' fs a)→gStep P ops C R spec fs k o K a→gStep P ops C R spec fs k o K' a:=by
   intro K K' hK hg
   unfold gStep at *
   split
   ·rename_i hw
    rw [if_pos hw] at hg
    split
    ·rename_i hs
     rw [hs] at hg
     obtain ⟨c,h1,h2⟩:=hg
     exact ⟨c,h1,hK _ _ h2⟩
    ·rename_i c hs
     rw [hs] at hg
     exact ⟨hg.1,hK _ _ hg.2⟩
    ·rename_i F hs
     rw [hs] at hg
     exact ⟨hg.1,fun v=>hK _ _ (hg.2 v)⟩
   ·rename_i hw
    rw [if_neg hw] at hg
    exact hK _ _ hg
  refine mono _ _ (fun fs' a' h'=>gList_walk (n:=n) l (k + 1) fs' a' (fun j hj=>?_) h') h
  have:=hl (j + 1) (by simp; omega)
  simpa [Nat.add_assoc,Nat.add_comm 1 j] using this
end
open Go.RowKit
def Grows (w w':World):Prop:=Below w.heap.size w w'
def Onward (W:World) (w':World):Prop:=∃ x:Later W,w'=x.val
theorem Onward.mk' {W w':World} (h:Below W.heap.size W w'):Onward W w':=⟨⟨w',h⟩,rfl⟩
theorem Onward.below {W w':World} (h:Onward W w'):Below W.heap.size W w':=by
 obtain ⟨x,rfl⟩:=h
 exact x.below
theorem onward_step {W:World}:∀ w w',Onward W w→Grows w w'→Onward W w':=fun _ _ h h'=>Onward.mk' (h.below.trans (Below.mono h' h.below.size))
def growB (ops:Array Oper):Bool:=Region.noSelect ops && topoB ops && apartB ops ops.size
def growTailB (ops:Array Oper) (n:Nat):Bool:=Region.noSelect ops && topoB ops && apartB ops n && decide (n + 1=ops.size) && Region.sinkB .any ops n && Region.chainB .any ops n
theorem heads_all (n m:Nat) (h:n≤m):heads n (Array.replicate m false)=List.range' 0 n:=by
 unfold heads
 rw [List.range_eq_range',List.filter_eq_self]
 intro i hi
 have:=List.mem_range'_1.1 hi
 simp [show i < m by omega]
theorem inv_start (ops:Array Oper) (n:Nat):HeadInv .any ops n (Array.replicate ops.size false) :=
 ⟨by simp,fun j oj _ hl=>(by rw [getD_replicate_false] at hl; cases hl),fun t _ ht=>getD_in (by simpa using ht) (getD_replicate_false _ _)⟩
section
variable {P:Program} {spec:Nat→GSpec} {Q:Exit→Act→World→Prop} {a:Act} {w W:World} {id:Nat} {l:List Oper}
theorem wp_grow (hm:P.follows .mixedOrders=true) (hB:growB l.toArray=true) (hW:Onward W w.drew) (hstab:∀ k F,spec k=.any F→∀ v w w',F v w→Grows w w'→F v w')
  (h:gList P l.toArray (Onward W) Grows spec (fun fs a'=>∀ w',Onward W w'→(∀ j,fs j w')→Q .normal a' w') 0 l Facts.none a):(Code.region id l.toArray true).wp P Q a w:=by
 simp only [growB,Bool.and_eq_true] at hB
 obtain ⟨⟨hsel,htopo⟩,hap⟩:=hB
 refine wp_region_any hm ?_
 have h2:=gList_walk (n:=0) l 0 Facts.none a (fun j hj=>by simp) h
 have H:=gAny (P:=P) (g:=0) (Q:=Q) (n:=l.toArray.size) (Nat.le_refl _) hsel htopo hap onward_step hstab (E:=fun fs a'=>∀ w',Onward W w'→(∀ j,fs j w')→Q .normal a' w')
  (fun listed fs a' w' inv hnil hC hfs hE=>by
   refine ⟨?_,hE w' hC hfs⟩
   cases hr:Region.ready .any l.toArray listed with
   | nil=>rfl
   | cons t ts =>
    have ht:=(mem_ready.1 (show t∈Region.ready .any l.toArray listed by rw [hr]; simp))
    have hlt:t < l.toArray.size:=by
     obtain ⟨_,o,ho,_⟩:=ht
     exact (Array.getElem?_eq_some_iff.1 ho).1
    have:=mem_heads.2 ⟨hlt,ht.1⟩
    rw [hnil] at this
    cases this)
  (fun listed inv _ t ht=>by
   obtain ⟨_,o,ho,_⟩:=mem_ready.1 ht
   exact (Array.getElem?_eq_some_iff.1 ho).1)
  l.length (Array.replicate l.toArray.size false) Facts.none a w.drew (inv_start _ _) (by rw [heads_all _ _ (Nat.le_refl _)]; simp) (by rw [heads_all _ _ (Nat.le_refl _)]; simpa using h2) hW (fun _=>trivial) (fun _ _ _ _ _=>trivial)
 simpa using H
theorem wp_grow_tail (n:Nat) (hm:P.follows .mixedOrders=true) (hB:growTailB l.toArray n=true) (hW:Onward W w.drew) (hstab:∀ k F,spec k=.any F→∀ v w w',F v w→Grows w w'→F v w')
  (h:gList P l.toArray (Onward W) Grows spec (fun fs a'=>∀ w',Onward W w'→(∀ j,fs j w')→wpList P l.toArray Q (l.drop n) a' w') 0 (l.take n) Facts.none a):(Code.region id l.toArray true).wp P Q a w:=by
 simp only [growTailB,Bool.and_eq_true,decide_eq_true_eq] at hB
 obtain ⟨⟨⟨⟨⟨hsel,htopo⟩,hap⟩,hn⟩,hsink⟩,hchain⟩:=hB
 refine wp_region_any hm ?_
 have hnl:n < l.length:=by simp at hn; omega
 have hns:n < l.toArray.size:=by omega
 have htl:(l.take n).length=n:=by simp; omega
 have h2:=gList_walk (n:=0) (l.take n) 0 Facts.none a (fun j hj=>by
  rw [htl] at hj
  simp [hj]) h
 rw [htl] at h2
 have H:=gAny (P:=P) (g:=1) (Q:=Q) (n:=n) (by omega) hsel htopo hap onward_step hstab (E:=fun fs a'=>∀ w',Onward W w'→(∀ j,fs j w')→wpList P l.toArray Q (l.drop n) a' w')
  (fun listed fs a' w' inv hnil hC hfs hE=>by
   have hT:=hE w' hC hfs
   obtain ⟨t,ht⟩:∃ t,l[n]? = some t:=⟨_,List.getElem?_eq_getElem hnl⟩
   have hd:l.drop n=[t]:=by
    rw [List.drop_eq_getElem_cons hnl]
    have e1:l[n]=t:=by rw [List.getElem?_eq_getElem hnl] at ht; injection ht
    have e2:l.drop (n + 1)=[]:=List.drop_eq_nil_of_le (by simp at hn; omega)
    rw [e1,e2]
   rw [hd] at hT
   have hall:∀ i,i < n→listed.getD i true=true:=fun i hi=>by
    cases hh:listed.getD i true with
    | true=>rfl
    | false =>
     have:=mem_heads.2 ⟨hi,hh⟩
     rw [hnil] at this
     cases this
   have hnr:n∈Region.ready .any l.toArray listed:=by
    refine mem_ready.2 ⟨inv.tail n (Nat.le_refl _) hns,t,by simpa using ht,fun e he hb=>?_⟩
    have hlt:=topo_spec htopo (show l.toArray[n]? = some t by simpa using ht) e he hb
    exact getD_both' (hall _ hlt) (by rw [inv.size]; omega)
   refine ⟨fun h0=>(by rw [h0] at hnr; cases hnr),fun i hi=>?_⟩
   have hin:i=n:=by
    obtain ⟨hu,o,ho,_⟩:=mem_ready.1 hi
    have hilt:i < l.toArray.size:=(Array.getElem?_eq_some_iff.1 ho).1
    rcases Nat.lt_or_ge i n with h | h
    ·rw [hall i h] at hu
     cases hu
    ·omega
   subst hin
   have hfin:∀ a'' w'',Q .normal a'' w''→wpAny P .any l.toArray Q 0 (listed.setIfInBounds i true) a'' w'':=by
    intro a'' w'' hq
    refine ⟨?_,hq⟩
    cases hr:Region.ready .any l.toArray (listed.setIfInBounds i true) with
    | nil=>rfl
    | cons q qs =>
     exfalso
     have hq':=(mem_ready.1 (show q∈Region.ready .any l.toArray (listed.setIfInBounds i true) by rw [hr]; simp))
     obtain ⟨hu,o,ho,_⟩:=hq'
     have hqlt:q < l.toArray.size:=(Array.getElem?_eq_some_iff.1 ho).1
     by_cases hqi:q=i
     ·subst hqi
      have:q < listed.size:=by rw [inv.size]; exact hns
      simp [this] at hu
     ·rw [getD_set_ne true (fun e=>hqi e.symm),hall q (by omega)] at hu
      cases hu
   unfold wpOp
   have ho:l.toArray[i]? = some t:=by simpa using ht
   simp only [ho]
   unfold wpList at hT
   split
   ·rename_i hw
    rw [if_pos hw] at hT
    exact hT.imp (Oper.wp_mono fun a'' w'' hq=>hfin a'' w'' hq) (fun h=>h)
   ·rename_i hw
    rw [if_neg hw] at hT
    exact hfin _ _ hT)
  (fun listed inv hne t ht=>by
   rcases Nat.lt_or_ge t n with h | h
   ·exact h
   ·exfalso
    obtain ⟨i,hi⟩:∃ i,i∈heads n listed:=by
     cases hh:heads n listed with
     | nil=>exact absurd hh hne
     | cons k ks=>exact ⟨k,by simp⟩
    have hi':=mem_heads.1 hi
    exact tail_waits hsink hchain hns inv (n - i) i rfl hi'.1 hi'.2 t h ht)
  n (Array.replicate l.toArray.size false) Facts.none a w.drew (inv_start _ _) (by rw [heads_all _ _ (by omega)]; simp) (by rw [heads_all _ _ (by omega)]; exact h2) hW (fun _=>trivial) (fun _ _ _ _ _=>trivial)
 rw [hn] at H
 exact H
end
open Go.RowKit
def plainOp:Op→Bool
 | .move _ | .assign _ | .pick .. | .load .. | .fieldAddr .. | .indexAddr .. | .binOp .. | .unOp .. | .convert .. | .build .. | .extract .. | .slice .. | .index .. | .field ..=>true
 | _=>false
theorem plain_noEnter {P:Program} {ρ:Operand→Value} {o:Oper} (h:plainOp o.op=true) (w:World) (f:FuncId) (args:Array Value) (w':World):(execOp ρ o).run P w≠.ok (.enter f args) w':=by
 have key:∀ {α:Type} (s:Sem α) (g:α→Value),(do pure (Next.value (g (←s))):Sem Next).run P w≠.ok (.enter f args) w':=fun s g=>by
  simp only [Sem.run_bind,Sem.run_pure]
  cases s.run P w with
  | ok v w1=>simp [Result.andThen]
  | halt x w1=>simp [Result.andThen]
 obtain ⟨dst,op,type,pos,after,guard⟩:=o
 cases op <;> simp only [plainOp,Bool.false_eq_true] at h <;> simp only [execOp]
 case move x=>simp
 case assign x=>simp
 case pick c x y=>exact key (asBool (ρ c)) fun b=>if b then ρ x else ρ y
 all_goals exact key _ id
theorem det_of_quiet {P:Program} {C:World→Prop} {w:World} {v:Value} {r:Result Next} (h:Oper.quietUpon P C w v r) (hn:∀ f args w',r≠.ok (.enter f args) w'):detUpon w v r:=by
 cases r with
 | ok n w' =>
  cases n <;> simp only [Oper.quietUpon] at h
  ·exact h
  ·exact h
  ·exact absurd rfl (hn _ _ _)
 | halt x w'=>simp only [Oper.quietUpon] at h
def detsFrom (spec:Nat→GSpec):Nat→List Oper→Prop
 | _,[]=>True
 | k,o :: l=>spec k=.det∧plainOp o.op=true∧detsFrom spec (k + 1) l
section
variable {P:Program} {ops:Array Oper} {C:World→Prop} {R:World→World→Prop} {spec:Nat→GSpec} {E:Facts→Act→Prop}
theorem gList_quiet:∀ (l1:List Oper) {l2:List Oper} {k:Nat} {fs:Facts} {a:Act},detsFrom spec k l1 →
  wpQuiet P ops C (fun a'=>gList P ops C R spec E (k + l1.length) l2 fs a') l1 a→gList P ops C R spec E k (l1 ++ l2) fs a
 | [],l2,k,fs,a,_,h=>by simpa [wpQuiet] using h
 | o :: l1,l2,k,fs,a,hd,h=>by
  obtain ⟨hs,hp,hd'⟩:=hd
  simp only [List.cons_append,gList,gStep,hs]
  unfold wpQuiet at h
  have e:∀ x:Act→Prop,(k + (o :: l1).length)=(k + 1) + l1.length:=fun _=>by simp; omega
  rw [e (fun _=>True)] at h
  split
  ·rename_i hw
   rw [if_pos hw] at h
   obtain ⟨c,h1,h2⟩:=h
   exact ⟨c,fun w hC=>det_of_quiet (h1 w hC) (plain_noEnter hp w),gList_quiet l1 hd' h2⟩
  ·rename_i hw
   rw [if_neg hw] at h
   exact gList_quiet l1 hd' h
theorem gList_any {k:Nat} {o:Oper} {l:List Oper} {fs:Facts} {a:Act} (F:Value→World→Prop) (hs:spec k=.any F) (hg:o.guard=none)
  (h1:∀ w,C w→depsHold ops k fs w→growUpon P R F w ((execOp a.eval o).run P w)) (h2:∀ v,gList P ops C R spec E (k + 1) l (fs.upd k (F v)) (a.put o.dst v)):gList P ops C R spec E k (o :: l) fs a:=by
 have hw:Region.wanted o (yielded ops a.tmps)=true:=by simp [Region.wanted,hg]
 simp only [gList,gStep,hs,if_pos hw]
 exact ⟨h1,h2⟩
theorem gList_con {k:Nat} {o:Oper} {l:List Oper} {fs:Facts} {a:Act} (c:Value) (hs:spec k=.con c) (hg:o.guard=none)
  (h1:∀ w,C w→depsHold ops k fs w→growUpon P R (fun v _=>v=c) w ((execOp a.eval o).run P w)) (h2:gList P ops C R spec E (k + 1) l fs (a.put o.dst c)):gList P ops C R spec E k (o :: l) fs a:=by
 have hw:Region.wanted o (yielded ops a.tmps)=true:=by simp [Region.wanted,hg]
 simp only [gList,gStep,hs,if_pos hw]
 exact ⟨h1,h2⟩
theorem grow_call {f:FuncId} {args:Array Value} {w:World} {F:Value→World→Prop} {o:Oper} {a:Act} (hr:(execOp a.eval o).run P w=.ok (.enter f args) w)
  (h:Calls P f args w fun e w''=>∃ v,e=.returned v∧R w w''∧F v w''):growUpon P R F w ((execOp a.eval o).run P w):=by
 rw [hr]
 exact h
end
def RowOf (base e size n:Nat) (xs:List Value) (v:Value) (w:World):Prop:=∃ A c,v=.slice A n c∧w.ownsRow base e size (.slice A n c) n xs
theorem RowOf.stable {base e size n:Nat} {xs:List Value}:∀ v w w',RowOf base e size n xs v w→Grows w w'→RowOf base e size n xs v w':=by
 rintro v w w' ⟨A,c,rfl,h⟩ hg
 exact ⟨A,c,rfl,own_below h hg⟩
def LitOf (base e size:Nat) (v:Value) (w:World):Prop:=∃ g,v=.slice (some ⟨g,0,none⟩) 0 0∧w.ownsRow base e size (.slice (some ⟨g,0,none⟩) 0 0) 0 []
theorem LitOf.stable {base e size:Nat}:∀ v w w',LitOf base e size v w→Grows w w'→LitOf base e size v w':=by
 rintro v w w' ⟨g,rfl,h⟩ hg
 exact ⟨g,rfl,own_below h hg⟩
theorem lit_made {w:World} {base e size:Nat} (hb:base≤w.heap.size):LitOf base e size (.slice (some ⟨w.heap.size,0,none⟩) 0 0) (w.alloc (.cells #[] e)) :=
 ⟨w.heap.size,rfl,own_lit #[] 0 rfl hb (Nat.zero_le _) (by simp)⟩
theorem run_copy {P:Program} {w:World} {base t ty e:Nat} {z:Value} {size bytes:Nat} (ht:P.underlying t=some (.slice e)) (hinfo:(P.info? e).map (fun i=>(i.zero,i.size,i.bytes))=some (some z,size,bytes))
  (hzs:z.cells.size=size) (hsz:0 < size) {s:Value} (hs:LitOf base e size s w) {A:Option Addr} {n c B:Nat} {xs:List Value} (hl:xs.length=n * size) (hc:Cells w B A xs) (hnil:A=none→c=0)
  (h1:∀ u∈xs,u.oneCell'=true) (hn:n≤1000000000) (hbytes:bytes≤1000) (hbase:base≤w.heap.size) :
  ∃ v w',(Builtin.append_ #[t,t] ty #[s,.slice A n c]).run P w=.ok v w'∧Grows w w'∧RowOf base e size n xs v w':=by
 obtain ⟨i,hi,hz0,hz1,hz2⟩:=info_parts hinfo
 obtain ⟨g,rfl,hown⟩:=hs
 by_cases h0:n=0
 ·subst h0
  have hxs:xs=[]:=List.length_eq_zero_iff.1 (by omega)
  subst hxs
  refine ⟨.slice (some ⟨g,0,none⟩) 0 0,w,?_,Below.refl _ _,⟨_,_,rfl,hown⟩⟩
  cases A with
  | none =>
   have:=hnil rfl
   subst this
   simp [Builtin.append_,run_underlying ht,sizeOf,typeInfo,hi,Builtin.lenOf,Builtin.firstCells,storeCells]
  | some a =>
   have hf:=run_firstCells_some (P:=P) w i.size 0 a 0 c [] (by simp) (by simp)
   simp [Builtin.append_,run_underlying ht,sizeOf,typeInfo,hi,Builtin.lenOf,hf,storeCells]
 ·have hx0:0 < xs.length:=by rw [hl]; exact Nat.mul_pos (by omega) hsz
  obtain ⟨b,off,rfl,hb,hcl⟩:=hc hx0
  have hmul:(0 + n) * bytes≤1000000000 * 1000:=Nat.mul_le_mul (by omega) hbytes
  have hcl':∀ j u,xs[j]? = some u→w.cell? ((⟨b,off,none⟩:Addr).add j)=some u:=fun j u hu=>by
   have e:(⟨b,off,none⟩:Addr).add j=⟨b,off + j,none⟩:=by simp [Addr.add]
   rw [e]
   exact hcl j u hu
  obtain ⟨v',w',hr,ho,_,_⟩:=run_append_own (P:=P) w base t ty e i z size bytes ht hi hz0 hz1 hz2 hzs hsz _ 0 [] hown ⟨b,off,none⟩ n c xs hl hcl' h1 (by unfold maxLen; omega) (by omega) hbase
  have hg:=run_append_grow (P:=P) (w:=w) t ty e i z ht hi hz0 ⟨g,0,none⟩ 0 0 [] (by simp) (by simp) ⟨b,off,none⟩ n c xs (by rw [hz1]; exact hl) hcl' (by omega) (by omega) (growslice_fits (by omega) (by rw [hz2]; omega))
  rw [hr] at hg
  injection hg with e1 e2
  refine ⟨v',w',hr,?_,?_⟩
  ·rw [e2]
   exact (Below.refl _ _).drew.alloc (Nat.le_refl _) _
  ·obtain ⟨A',c',rfl⟩:=own_shape ho
   rw [Nat.zero_add,List.nil_append] at ho
   rw [Nat.zero_add]
   exact ⟨A',c',rfl,ho⟩
end Go.Proofs.YtihbaieiempjeaaGreat
