/- Lemmas of the proof: EvA, OptV, SecP, Ins, EvX, EvGI, GrowT. -/
import Derived.Test.YtihbaieiempjeaaGreatD0
import Derived.Test.YtihbaieiempjeaaGreatD19
import Derived.Test.YtihbaieiempjeaaGreatD4
import Derived.Test.YtihbaieiempjeaaGreatD1
import Derived.Test.YtihbaieiempjeaaGreatD6
namespace Go.Proofs.YtihbaieiempjeaaGreat
open Go.RowKit
theorem evA_label {a g e:Int} (b n:Int) (ha:labelB a=true) (hg:labelB g=true) (he:labelB e=true):labelB (evA a b g e n)=true :=
 xorI_label (xorI_label (xorI_label (hash_label _ _) (hash_label _ _)) (ifI_label hg)) (ifI_label (xorI_label he ha))
set_option maxHeartbeats 1600000 in
theorem iEvalAnd (a b g e:Int) (n:Nat) (w:World) (ha:labelB a=true) (hb:labelB b=true) (hg:labelB g=true) (he:labelB e=true) (hn:n≤6000) :
  Calls Tryz.prog 111 #[.int .i64 a,.int .i64 b,.int .i64 g,.int .i64 e,.int .i64 (n:Int)] w fun r w'=>r=.returned (.int .i64 (evA a b g e (n:Int)))∧Below w.heap.size w w':=by
 have h6:inB (n:Int) 0 6000=true:=inB_iff.2 (by omega)
 have hn0:inB (2 * (n:Int)) 0 1000000=true:=inB_iff.2 (by omega)
 have hn1:inB (2 * (n:Int) + 1) 0 1000000=true:=inB_iff.2 (by omega)
 have K1:=hid (fun w=>iHash a (2 * (n:Int)) w ha hn0)
 have K2:=hid (fun w=>iHash b (2 * (n:Int) + 1) w hb hn1)
 have L4:=hid (fun c t w=>iLab4 a b g e c t w ha hb hg he)
 have n6:(n:Int)≤6000:=by omega
 have M1:=mul_if ha hg
 have M2:=mul_if hb (xor_label he ha)
 clear hn0 hn1
 unfold evA
 obtain ⟨h1,e1⟩:∃ h,hashI a (2 * (n:Int))=h:=⟨_,rfl⟩
 obtain ⟨h2,e2⟩:∃ h,hashI b (2 * (n:Int) + 1)=h:=⟨_,rfl⟩
 obtain ⟨m1,f1⟩:∃ m,ifI (oneI a) g=m:=⟨_,rfl⟩
 obtain ⟨m2,f2⟩:∃ m,ifI (oneI b) (xorI e a)=m:=⟨_,rfl⟩
 have f2':ifI (oneI b) (bits .xor .i64 e a)=m2:=f2
 rw [e1] at K1 ⊢
 rw [e2] at K2 ⊢
 rw [f1] at M1 ⊢
 rw [f2'] at M2
 rw [f2]
 clear e1 e2 f1 f2 f2'
 go_enter Tryz.func111,Tryz.ntmps111
 go_wp2_with first | (go_at_call 110; (with_reducible refine (L4.out _ _ _).mono ?_); rintro e w' ⟨rfl,rfl⟩) | (go_at_call 56; refine (iWithin _ _ _ _).mono ?_; rintro e w' ⟨rfl,rfl⟩) | (go_at_call 106; (with_reducible refine (K1.out _).mono ?_); rintro e w' ⟨rfl,rfl⟩) | (go_at_call 106; (with_reducible refine (K2.out _).mono ?_); rintro e w' ⟨rfl,rfl⟩)
 go_ret
 refine ⟨rfl,?_⟩
 exact belBy
open Go.RowKit
open Go.RowKit
def garZs (s a:Int) (gs:List Gt):List Int:=(garTo s (deltaI s a) gs gs.length).1
def garTs (s a:Int) (gs:List Gt):List Int:=(garTo s (deltaI s a) gs gs.length).2
def garCs (s a:Int) (gs:List Gt):List Int:=conTo (deltaI s a) (garZs s a gs) gs gs.length
def wireL (s a:Int) (gs:List Gt) (ls:List Int):List Int:=evTo (garTs s a gs) (garCs s a gs) ls gs gs.length
theorem labs_at {s a:Int} {B:List Int} {n:Nat} (k:Nat) (hk:k < n):(labsTo s a B n).getD k 0=lblI (zeroI s k) (deltaI s a) (B.getD k 0):=by
 rw [List.getD_eq_getElem?_getD,labsTo_get s a B k n hk]
 rfl
theorem wire_label {s a:Int} {B:List Int} {gs:List Gt} (hB:∀ x∈B,Bit x) (hg:gatesB 0 gs=true) {i:Nat} (hi:i < gs.length) :
  (wireL s a gs (labsTo s a B 80)).getD i 0=lblI ((garZs s a gs).getD i 0) (deltaI s a) ((ev B gs).getD i 0):=by
 have h:=ev_labels (s:=s) (d:=deltaI s a) (B:=B) (ls:=labsTo s a B 80) (gs:=gs) (delta_label s a) (delta_odd s a) hB hg (fun k hk=>labs_at k hk) gs.length (Nat.le_refl _) i hi
 rw [List.take_length] at h
 exact h
theorem zero_lbl (s a:Int) (gs:List Gt) (i:Nat):labelB ((garZs s a gs).getD i 0)=true:=getD_label (gar_labels gs (delta_label s a) _) i
theorem ev_bitD {B:List Int} {gs:List Gt} (hB:∀ x∈B,Bit x) (hg:gatesB 0 gs=true) (i:Nat):Bit ((ev B gs).getD i 0):=by
 have h:=ev_bit hB hg (i:Int)
 unfold V at h
 rwa [Int.toNat_natCast] at h
noncomputable def cirG (L:List St):List Gt:=(optC (compL L).g (compL L).o).1
noncomputable def cirO (L:List St):List Int:=(optC (compL L).g (compL L).o).2
theorem compL_yes {L:List St} (hu:unrB L=true):compL L=compC (unrL L):=by unfold compL; rw [if_pos hu]
theorem compL_valid {L:List St} (hu:unrB L=true):circB (compL L).g (compL L).o=true:=by
 rw [compL_yes hu]
 have h:=comp_ok L
 have h2:=unrL_len L
 have h3:=h.hi
 unfold circB
 rw [h.g,h.o,decide_eq_true (by omega)]
 rfl
theorem cir_valid {L:List St} (hu:unrB L=true):circB (cirG L) (cirO L)=true:=opt_valid (compL_valid hu)
def valueI (z d l:Int):Int:=if l=z then 0 else if l=xorI z d then 1 else -1
theorem value_lab {z d v:Int} (hd:labelB d=true) (ho:oneI d=1) (hz:labelB z=true) (hv:Bit v):valueI z d (lblI z d v)=v:=by
 unfold valueI
 rcases hv with rfl | rfl
 ·rw [lbl0,if_pos rfl]
 ·rw [lbl1,if_neg,if_pos rfl]
  intro e
  obtain ⟨x,rfl⟩:=lab_of hz
  obtain ⟨y,rfl⟩:=lab_of hd
  rw [lab_xor] at e
  have e1:=congrArg oneI e
  rw [lab_one,lab_one] at e1
  rw [lab_one] at ho
  have e2:=lab_odd x y
  omega
def seenL (zs:List Int) (d:Int) (ws:List Int):List Int:=ws.mapIdx fun i x=>valueI (zs.getD i 0) d x
theorem wireL_length (s a:Int) (gs:List Gt) (ls:List Int):(wireL s a gs ls).length=gs.length:=evTo_length _ _ _ _ _
theorem seen_sem {s a:Int} {B:List Int} {gs:List Gt} (hB:∀ x∈B,Bit x) (hg:gatesB 0 gs=true):seenL (garZs s a gs) (deltaI s a) (wireL s a gs (labsTo s a B 80))=ev B gs:=by
 unfold seenL
 apply List.ext_getElem?
 intro i
 rw [List.getElem?_mapIdx]
 have hl:=wireL_length s a gs (labsTo s a B 80)
 by_cases hi:i < gs.length
 ·have e1:(wireL s a gs (labsTo s a B 80))[i]? = some ((wireL s a gs (labsTo s a B 80)).getD i 0):=by rw [List.getD_eq_getElem?_getD,List.getElem?_eq_getElem (by omega)]; rfl
  have e2:(ev B gs)[i]? = some ((ev B gs).getD i 0):=by rw [List.getD_eq_getElem?_getD,List.getElem?_eq_getElem (by rw [ev_length]; omega)]; rfl
  rw [e1,e2]
  simp only [Option.map_some]
  congr 1
  rw [wire_label hB hg hi]
  exact value_lab (delta_label s a) (delta_odd s a) (zero_lbl s a gs _) (ev_bitD hB hg _)
 ·rw [List.getElem?_eq_none (by omega),List.getElem?_eq_none (by rw [ev_length]; omega)]
  rfl
open Go.RowKit
theorem take_any {α:Type} {xs:List α} {k:Nat} {x:α} (h:xs[k]? = some x):xs.take (k + 1)=xs.take k ++ [x]:=by
 obtain ⟨hl,e⟩:=List.getElem?_eq_some_iff.1 h
 rw [List.take_succ_eq_append_getElem hl,e]
abbrev In1:Type:=Option Addr × Nat × List Int
def insW (ls:List In1):List Value:=ls.map fun q=>.slice q.1 q.2.2.length q.2.1
def insN (ls:List In1):List (List Int):=ls.map fun q=>q.2.2
def InsW (w:World) (B:Nat) (ls:List In1):Prop:=∀ (i:Nat) (q:In1),ls[i]? = some q→Cells w B q.1 (ints q.2.2)
def BitsE (w:World) (xs:List Int) (L:Nat) (o:Value) (wr:World):Prop :=
 ∃ (A':Option Addr) (c':Nat),xs.length=L∧o=.slice A' L c'∧wr.ownsRow w.heap.size 3 1 (.slice A' L c') L (ints xs)∧Below w.heap.size w wr
theorem insW_length (ls:List In1):(insW ls).length=ls.length:=by simp [insW]
theorem insN_length (ls:List In1):(insN ls).length=ls.length:=by simp [insN]
theorem insW_get {ls:List In1} {i:Nat} {q:In1} (h:ls[i]? = some q):(insW ls)[i]? = some (.slice q.1 q.2.2.length q.2.1):=by simp [insW,h]
theorem insN_get {ls:List In1} {i:Nat} {q:In1} (h:ls[i]? = some q):(insN ls)[i]? = some q.2.2:=by simp [insN,h]
theorem InsW.below {w w':World} {B:Nat} {ls:List In1} (h:InsW w B ls) (hb:Below w.heap.size w w') (hB:B≤w.heap.size):InsW w' B ls:=fun i q hq=>cells_below (h i q hq) hb hB
theorem InsW.more {w:World} {B B':Nat} {ls:List In1} (h:InsW w B ls) (hB:B≤B'):InsW w B' ls:=fun i q hq=>(h i q hq).more hB
def nbB (xs:List Int):Bool:=xs.all fun n=>inB n 0 15
theorem nbB_no {xs:List Int} {k:Nat} {x:Int} (h:xs[k]? = some x) (hx:inB x 0 15=false):nbB xs=false:=by
 unfold nbB
 rw [List.all_eq_false]
 exact ⟨x,List.mem_of_getElem? h,by simp [hx]⟩
theorem nbB_snoc {xs:List Int} {k:Nat} {x:Int} (h:xs[k]? = some x) (hw:nbB (xs.take k)=true) (hx:inB x 0 15=true):nbB (xs.take (k + 1))=true:=by
 rw [take_snoc h]
 unfold nbB at *
 simp [hw,hx,List.all_append]
def lnB (xs:List Int):Bool:=decide (xs.length=4) && nbB xs
def lnsB (ins:List (List Int)):Bool:=ins.all lnB
theorem insB_eq (ins:List (List Int)):insB ins=(lnsB ins && decide (ins.length=5)):=by
 rw [Bool.and_comm]
 rfl
theorem lnsB_no {ins:List (List Int)} {k:Nat} {x:List Int} (h:ins[k]? = some x) (hx:lnB x=false):lnsB ins=false:=by
 unfold lnsB
 rw [List.all_eq_false]
 exact ⟨x,List.mem_of_getElem? h,by simp [hx]⟩
theorem lnsB_snoc {ins:List (List Int)} {k:Nat} {x:List Int} (h:ins[k]? = some x) (hw:lnsB (ins.take k)=true) (hx:lnB x=true):lnsB (ins.take (k + 1))=true:=by
 rw [take_any h]
 unfold lnsB at *
 simp [hw,hx,List.all_append]
theorem app_inti {w:World} {ops:Array Oper} {rest:List Oper} {o:Oper} {a:Act} {Q:Exit→Act→World→Prop} (hgd:o.guard=none) (s x:Operand) (ho:o.op=.call { callee:=.builtin .append,args:=#[s,x],argTypes:=#[30,30] })
  {base n:Nat} {v:Value} {L:List Int} (hs:a.eval s=v) (hown:w.ownsRow base 3 1 v n (ints L)) (hbase:base≤w.heap.size) {b off m k:Nat} (M:List Int) (hx:a.eval x=.slice (some ⟨b,off,none⟩) m k) (hl:M.length=m)
  (hc:∀ j u,(ints M)[j]? = some u→w.cell? ⟨b,off + j,none⟩=some u) (hb:n + m≤1000000)
  (h:∀ A c' w',w'.ownsRow base 3 1 (.slice A (n + m) c') (n + m) (ints (L ++ M))→w.grownBy w' v.ownBlock→(∀ q,(Value.slice A (n + m) c').ownBlock=some q→v.ownBlock=some q∨q=w.heap.size)→wpList Tryz.prog ops Q rest (a.put o.dst (.slice A (n + m) c')) w'):wpList Tryz.prog ops Q (o :: rest) a w :=
 wpList_appi hgd s x _ ho base _ _ 1 8 Tryz.underlying30 infoI rfl (by decide) v n (ints L) hs hown ⟨b,off,none⟩ m k (ints M) hx (by rw [ints_length,hl,Nat.mul_one]) (cells_add hc) (ints_one _) (by omega) (by decide) hbase
  fun A c w' h1 h2 h3=>h A c w' (by rw [ints_app]; exact h1) h2 h3
def bits16 (l:List Int):List Int:=l.flatMap bits4
theorem bits16_len (l:List Int):(bits16 l).length=4 * l.length:=by
 unfold bits16
 induction l with
 | nil=>rfl
 | cons a l ih =>
  rw [List.flatMap_cons,List.length_append,ih,List.length_cons]
  simp [bits4]
  omega
theorem bits16_step {l:List Int} {j:Nat} {x:Int} (h:l[j]? = some x):bits16 (l.take (j + 1))=bits16 (l.take j) ++ bits4 x:=by
 unfold bits16
 rw [take_snoc h,List.flatMap_append]
 simp
theorem inBits_step {ins:List (List Int)} {k:Nat} {l:List Int} (h:ins[k]? = some l):inBits (ins.take (k + 1))=inBits (ins.take k) ++ bits16 l:=by
 unfold inBits bits16
 rw [take_any h,List.flatMap_append]
 simp
theorem inBits_take {ins:List (List Int)} (hi:lnsB ins=true):∀ k,k≤ins.length→(inBits (ins.take k)).length=16 * k
 | 0,_=>rfl
 | k + 1,h=>by
  obtain ⟨l,hl⟩:∃ l,ins[k]? = some l:=⟨_,List.getElem?_eq_getElem (by omega)⟩
  have h1:=List.all_eq_true.1 hi l (List.mem_of_getElem? hl)
  unfold lnB at h1
  rw [Bool.and_eq_true,decide_eq_true_eq] at h1
  rw [inBits_step hl,List.length_append,bits16_len,inBits_take hi k (by omega),h1.1]
  omega
theorem bit_take {x:Int} {m:Nat} (h0:0≤x) (h1:x≤15) (hm:m < 4):(bits4 x).take (m + 1)=(bits4 x).take m ++ [bits .and .i64 (x / 2 ^ m) 1]:=by
 obtain ⟨y,rfl⟩:=Int.eq_ofNat_of_zero_le h0
 have e:∀ z:Nat,z≤15→bits .and .i64 ((z:Nat):Int) 1=((z:Nat):Int) % 2:=fun z hz=>by
  rw [show (1:Int)=((1:Nat):Int) from rfl,and_nat z 1 (by omega) (by omega),Nat.and_one_is_mod]
  omega
 have d:∀ n:Nat,((y:Nat):Int) / ((n:Nat):Int)=((y / n:Nat):Int):=fun n=>by simp
 have l:∀ n:Nat,y / n≤15:=fun n=>Nat.le_trans (Nat.div_le_self _ _) (by omega)
 unfold bits4
 match m,hm with
 | 0,_=>rw [show (2:Int) ^ 0=((1:Nat):Int) from rfl,d,e _ (l _)]; simp
 | 1,_=>rw [show (2:Int) ^ 1=((2:Nat):Int) from rfl,d,e _ (l _)]; simp
 | 2,_=>rw [show (2:Int) ^ 2=((4:Nat):Int) from rfl,d,e _ (l _)]; simp
 | 3,_=>rw [show (2:Int) ^ 3=((8:Nat):Int) from rfl,d,e _ (l _)]; simp
theorem inBits_bits (ins:List (List Int)):bitsB (inBits ins)=true:=by
 unfold bitsB
 rw [List.all_eq_true]
 intro x hx
 have h:=inBits_bit x hx
 unfold Bit at h
 exact inB_iff.2 (by omega)
open Go.RowKit
theorem evW_label {T C ls out:List Int} (hT:∀ x∈T,labelB x=true) (hC:∀ x∈C,labelB x=true) (hl:∀ x∈ls,labelB x=true) (ho:∀ x∈out,labelB x=true) (ka kc n:Nat) (g:Gt):labelB (evW T C ls out ka kc n g)=true:=by
 unfold evW
 split
 ·exact getD_label hl _
 split
 ·exact getD_label hC _
 split
 ·exact xorI_label (getD_label ho _) (getD_label ho _)
 split
 ·exact getD_label ho _
 ·exact evA_label _ _ (getD_label ho _) (getD_label hT _) (getD_label hT _)
theorem evTo_labels {T C ls:List Int} {gs:List Gt} (hT:∀ x∈T,labelB x=true) (hC:∀ x∈C,labelB x=true) (hl:∀ x∈ls,labelB x=true):∀ j,∀ z∈evTo T C ls gs j,labelB z=true
 | 0=>by simp [evTo]
 | j + 1=>by
  intro z hz
  have ih:=evTo_labels hT hC hl (gs:=gs) j
  rw [evTo,List.mem_append] at hz
  rcases hz with hz | hz
  ·exact ih z hz
  ·rw [List.mem_singleton] at hz
   subst hz
   exact evW_label hT hC hl ih _ _ _ _
theorem ev_step {T C ls:List Int} {gs:List Gt} {j:Nat} {g:Gt} (h:gs[j]? = some g):evTo T C ls gs (j + 1)=evTo T C ls gs j ++ [evW T C ls (evTo T C ls gs j) (andG (gs.take j)) (conG (gs.take j)) j g]:=by
 rw [evTo,List.getD_eq_getElem?_getD,h]
 rfl
theorem cnt_step {gs:List Gt} {j:Nat} {g:Gt} (h:gs[j]? = some g):andG (gs.take (j + 1))=andG (gs.take j) + andOne g∧conG (gs.take (j + 1))=conG (gs.take j) + conOne g:=by
 have e:=take_any h
 rw [e]
 exact ⟨andG_snoc _ _,conG_snoc _ _⟩
theorem cnt_le (gs:List Gt) (j:Nat):andG (gs.take j)≤cntG gs 4∧conG (gs.take j)≤cntG gs 2 :=
 ⟨((List.take_sublist j gs).filter _).length_le,((List.take_sublist j gs).filter _).length_le⟩
theorem cnt_lt4 {gs:List Gt} {j:Nat} {x y:Int} (h:gs[j]? = some ⟨4,x,y⟩):andG (gs.take j) < cntG gs 4:=by
 have h1:=(cnt_step h).1
 have h2:=(cnt_le gs (j + 1)).1
 have e:andOne ⟨4,x,y⟩=1:=rfl
 omega
theorem cnt_lt2 {gs:List Gt} {j:Nat} {x y:Int} (h:gs[j]? = some ⟨2,x,y⟩):conG (gs.take j) < cntG gs 2:=by
 have h1:=(cnt_step h).2
 have h2:=(cnt_le gs (j + 1)).2
 have e:conOne ⟨2,x,y⟩=1:=rfl
 omega
theorem con_labels {d:Int} {zs:List Int} {gs:List Gt} (hd:labelB d=true) (hz:∀ x∈zs,labelB x=true):∀ j,∀ x∈conTo d zs gs j,labelB x=true
 | 0=>by simp [conTo]
 | j + 1=>by
  intro x hx
  rw [conTo,List.mem_append] at hx
  rcases hx with hx | hx
  ·exact con_labels hd hz j x hx
  ·unfold conP at hx
   split at hx
   ·rw [List.mem_singleton] at hx
    subst hx
    exact lbl_label _ (getD_label hz _) hd
   ·cases hx
theorem one_bit {x:Int} (h:labelB x=true):inB (oneI x) 0 1=true:=by
 obtain ⟨y,rfl⟩:=lab_of h
 rw [lab_one]
 exact inB_iff.2 (by omega)
theorem dec_bits {zs os:List Int} (hz:∀ x∈zs,labelB x=true):bitsB (decL zs os)=true:=by
 unfold bitsB decL
 rw [List.all_eq_true]
 intro x hx
 obtain ⟨w,_,rfl⟩:=List.mem_map.1 hx
 exact one_bit (getD_label hz _)
theorem gar_ok (s a:Int) {gs:List Gt} {os:List Int} (h:circB gs os=true) (hm:os.length≤1000000):GarOk gs os (deltaI s a) (garZs s a gs) (garTs s a gs) :=
 ⟨h,hm,delta_label s a,delta_odd s a,gar_labels gs (delta_label s a) _,gar_tlabels gs (delta_label s a) _,gar_zeros _ _ _ _,by
  have e:=gar_tables s (deltaI s a) gs gs.length (Nat.le_refl _)
  rw [List.take_length] at e
  exact e⟩
theorem pub_ok (s a:Int) {gs:List Gt} {os:List Int} (h:circB gs os=true) (hm:os.length≤1000000):PubOk gs os (garTs s a gs) (garCs s a gs) (decL (garZs s a gs) os) :=
 ⟨h,hm,(gar_ok s a h hm).t,con_labels (delta_label s a) (gar_ok s a h hm).z _,dec_bits (gar_ok s a h hm).z,(gar_ok s a h hm).tn,by
  have e:=conTo_length (deltaI s a) (garZs s a gs) gs gs.length (Nat.le_refl _)
  rw [List.take_length] at e
  exact e,by unfold decL; simp⟩
theorem wire_labels (s a:Int) {gs:List Gt} {os ls:List Int} (h:circB gs os=true) (hm:os.length≤1000000) (hl:∀ x∈ls,labelB x=true):∀ x∈wireL s a gs ls,labelB x=true :=
 evTo_labels (pub_ok s a h hm).t (pub_ok s a h hm).k hl _
theorem labs_labels (s a:Int) (B:List Int):∀ n,∀ x∈labsTo s a B n,labelB x=true
 | 0=>by simp [labsTo]
 | n + 1=>by
  intro x hx
  rw [labsTo,List.mem_append] at hx
  rcases hx with hx | hx
  ·exact labs_labels s a B n x hx
  ·rw [List.mem_singleton] at hx
   subst hx
   exact lbl_label _ (zero_label _ _) (delta_label _ _)
theorem own_empty {w:World} {base e g size:Nat} (h:Blk w g e #[]) (hg:base≤g):w.ownsRow base e size (.slice (some ⟨g,0,none⟩) 0 0) 0 [] :=
 ⟨by simp,.inr ⟨g,0,#[],rfl,hg,h,Nat.le_refl _,Nat.zero_le _,by simp,by simp⟩⟩
open Go.RowKit
def GivesR (w:World) (xs:List Int) (e:Ending) (w':World):Prop :=
 ∃ A c,e=.returned (.tuple #[.slice A xs.length c,.bool true])∧w'.ownsRow w.heap.size 3 1 (.slice A xs.length c) xs.length (ints xs)∧Below w.heap.size w w'
set_option linter.unusedVariables false in
set_option maxRecDepth 100000 in
set_option maxHeartbeats 6400000 in
theorem iEvalGarbled (G O T K D L:Option Addr) (cg co ct ck cd cl:Nat) (gs:List Gt) (os ts cs ds ls:List Int) (w:World) (hg:Cells w w.heap.size G (ints (flatG gs))) (ho:Cells w w.heap.size O (ints os)) (ht:Cells w w.heap.size T (ints ts)) (hc:Cells w w.heap.size K (ints cs)) (hd:Cells w w.heap.size D (ints ds)) (hl:Cells w w.heap.size L (ints ls)) (h:PubOk gs os ts cs ds) (hll:∀ x∈ls,labelB x=true) (hln:ls.length=80) :
  Calls Tryz.prog 52 #[.agg #[.slice G gs.length cg,.slice O os.length co],.agg #[.slice T ts.length ct,.slice K cs.length ck,.slice D ds.length cd],.slice L ls.length cl] w (GivesR w (evTo ts cs ls gs gs.length)):=by
 obtain ⟨hn6,hgv,hov⟩:=circ_parts h.c
 have HC:=hid (And.intro hg (And.intro ho (And.intro ht (And.intro hc (And.intro hd hl)))))
 have HK:=hid (fun w hg ho ht hc hd=>iPublicOk G O T K D cg co ct ck cd gs os ts cs ds w hg ho ht hc hd h)
 have HV:=hid hgv
 have HT:=hid h.t
 have HS:=hid h.k
 have HLL:=hid hll
 have htn:=Nat.le_of_eq h.tn.symm
 have hkn:=Nat.le_of_eq h.kn.symm
 have hln2:=Nat.le_of_eq hln.symm
 have hc4:=cntG_le gs 4
 have HLB:=hid (fun w hc=>iLabels L cl ls w (fun j x hx=>hll x (List.mem_of_getElem? hx)) hc (by omega))
 have e8:((ls.length:Int) != 80)=false:=by rw [hln]; rfl
 rw [show GivesR w (evTo ts cs ls gs gs.length)=fun e w'=>∃ A c,e=.returned (.tuple #[.slice A gs.length c,.bool true])∧w'.ownsRow w.heap.size 3 1 (.slice A gs.length c) gs.length (ints (evTo ts cs ls gs gs.length))∧Below w.heap.size w w' by unfold GivesR; rw [evTo_length]]
 clear hg ho ht hc hd hl h hgv hov hll hln
 go_enter Tryz.func52,Tryz.ntmps52
 go_upto_region 1 with fail
 apply wp_forget2 (b0:=w.heap.size) (b1:=w.heap.size + 1) (w0:=w) (B:=w.heap.size)
 focus (exact blkBy)
 focus (exact blkBy)
 focus (exact belBy)
 intro W1 k0 k1 hbW
 have c0:=k0.cell
 have f0:=k0.frozen
 have z0:=k0.lt
 have c1:=k1.cell
 have f1:=k1.frozen
 have z1:=k1.lt
 have hbs:=hbW.size
 have HCW:=hid (And.intro ((HC.out.1.below hbW).more hbW.size) (And.intro ((HC.out.2.1.below hbW).more hbW.size) (And.intro ((HC.out.2.2.1.below hbW).more hbW.size) (And.intro ((HC.out.2.2.2.1.below hbW).more hbW.size) (And.intro ((HC.out.2.2.2.2.1.below hbW).more hbW.size) ((HC.out.2.2.2.2.2.below hbW).more hbW.size))))))
 go_wp2_with fail
 refine Calls.mono (HK.out _ HCW.out.1 HCW.out.2.1 HCW.out.2.2.1 HCW.out.2.2.2.1 HCW.out.2.2.2.2.1) ?_
 rintro e w1 ⟨rfl,hb1⟩
 have hz10:=hb1.size
 have k1a:=k0.past hb1
 have k1b:=k1.past hb1
 clear c0 f0 z0 c1 f1 z1
 have c0:=k1a.cell
 have f0:=k1a.frozen
 have z0:=k1a.lt
 have c1:=k1b.cell
 have f1:=k1b.frozen
 have z1:=k1b.lt
 go_wp2_with fail
 refine Calls.mono (HLB.out _ ((HCW.out.2.2.2.2.2.below hb1).more hz10)) ?_
 rintro e w' ⟨rfl,rfl⟩
 have HU:=hid (And.intro k1a (And.intro k1b (hbW.trans (hb1.mono hbW.size))))
 clear HCW HK HLB k0 k1 k1a k1b f0 c1 f1 z1
 have hz1:=HU.out.2.2.size
 go_wp2_with fail
 go_loopw [8,9,10,11,12,13,32] (fun o kc ka _ _ _ i wr=>∃ (j k':Nat) (A':Option Addr),j≤gs.length∧i=.int .i64 (j:Int)∧ka=.int .i64 (andG (gs.take j):Int)∧kc=.int .i64 (conG (gs.take j):Int)∧o=.slice A' j k'∧wr.ownsRow w.heap.size 3 1 (.slice A' j k') j (ints (evTo ts cs ls gs j))∧Blk wr w.heap.size TS #[.slice G gs.length cg,.slice O os.length co]∧Blk wr (w.heap.size + 1) TPb #[.slice T ts.length ct,.slice K cs.length ck,.slice D ds.length cd]∧Below w.heap.size w wr) (fun _ _ _ _ _ _ i _=>gs.length - (intOf i).toNat)
 case atStart=>exact ⟨0,0,some ⟨w1.heap.size,0,none⟩,Nat.zero_le _,rfl,rfl,rfl,rfl,own_lit (size:=1) #[] 0 rfl (by omega) (Nat.zero_le _) rfl,HU.out.1.alloc _,HU.out.2.1.alloc _,HU.out.2.2.alloc (by omega) _⟩
 case round =>
  obtain ⟨j,k',A',hj,rfl,rfl,rfl,rfl,hown,hx0,hp0,hbw⟩:=hrel
  have zw:=hbw.size
  have cell_x:=hx0.cell
  have lt_x:=hx0.lt
  by_cases hlt:j < gs.length
  ·obtain ⟨⟨k,x,y⟩,hx⟩:∃ s,gs[j]? = some s:=⟨_,List.getElem?_eq_getElem hlt⟩
   have hgv:=gatesB_at HV.out hx
   rw [Nat.zero_add] at hgv
   have hst:=ev_step (T:=ts) (C:=cs) (ls:=ls) hx
   have hct:=cnt_step hx
   obtain ⟨bG,og,rfl,hBg,d0,d1,d2⟩:=gt_cells HC.out.1 hbw hx
   have hxl:=evTo_length ts cs ls gs j
   have hlab:=evTo_labels (gs:=gs) HT.out HS.out HLL.out j
   obtain ⟨xs,hxs⟩:∃ c,evTo ts cs ls gs j=c:=⟨_,rfl⟩
   rw [hxs] at hown hst hxl hlab
   have hal:=(cnt_le gs j).1
   obtain ⟨a,hka⟩:∃ c,andG (gs.take j)=c:=⟨_,rfl⟩
   obtain ⟨b,hkb⟩:∃ c,conG (gs.take j)=c:=⟨_,rfl⟩
   have HLT:=hid (And.intro (fun x y (e:gs[j]? = some ⟨4,x,y⟩)=>cnt_lt4 e) (And.intro (fun x y (e:gs[j]? = some ⟨2,x,y⟩)=>cnt_lt2 e) hx))
   rw [hka,hkb] at hst hct HLT
   rw [hka] at hal ⊢
   rw [hkb]
   have hb9:b≤6000:=by have:=(cnt_le gs j).2; have:=cntG_le gs 2; omega
   have hlt':(j:Int) < (gs.length:Int):=by omega
   have hj6:(j:Int) < 6000:=by omega
   have j00:(0:Int)≤(j:Int):=by omega
   have hb1:j + 1≤1000000:=by omega
   have HLAB:=hid hlab
   have HI:=hid (And.intro hown (And.intro hx0 (And.intro hp0 hbw)))
   have HST:=hid hst
   have HCT:=hid hct
   clear hx hlab hxs hka hkb hown hp0 hx0 hbw hst hct
   have b_30:=(Below.refl wr.heap.size wr)
   have s_30:=b_30.size
   go_upto_region 9 with fail
   refine wp_forget1 (w0:=wr) (B:=wr.heap.size) (b0:=wr.heap.size) (t0:=96) (c0:=#[.int .i64 k,.int .i64 x,.int .i64 y]) ?_ ?_ ?_
   (focus exact blkcBy2)
   (focus (exact belBy))
   intro w31 q_31 hX31
   have sX31:=hX31.size
   have q_lt:=q_31.lt
   have b_31:=b_30.trans (hX31.mono (by omega))
   clear b_30 hX31
   have cell_q:=q_31.cell
   have froz_q:=q_31.frozen
   have lt_q:=q_31.lt
   have z31:=b_31.size
   have HI3:=hid (And.intro (own_below HI.out.1 b_31) (And.intro (HI.out.2.1.past b_31) (And.intro (HI.out.2.2.1.past b_31) (And.intro (HI.out.2.2.2.trans (b_31.mono zw)) q_31))))
   clear b_31 q_31 HI d0 d1 d2 cell_x lt_x
   rcases gate_kind hgv with hk | hk | hk | hk | hk
   ·obtain rfl:k=1:=hk
    have hab:=(gate_is1 hgv rfl).1
    dsimp only at hab
    obtain ⟨x,rfl⟩:=Int.eq_ofNat_of_zero_le hab.1
    have hzx:ls[x]? = some (ls.getD x 0):=by rw [List.getD_eq_getElem?_getD,List.getElem?_eq_getElem (by omega)]; rfl
    obtain ⟨bz,oz,rfl,hBz,hcz⟩:=Cells.at_ (HC.out.2.2.2.2.2.below HI3.out.2.2.2.1) (ints_get hzx)
    have fx:=hcz _ _ (ints_get hzx)
    have hxlt:(x:Int) < (ls.length:Int):=by omega
    have hx0:(0:Int)≤(x:Int):=by omega
    obtain ⟨zx,ex⟩:∃ z,ls.getD x 0=z:=⟨_,rfl⟩
    rw [ex] at fx
    have HE:=hid (HST.out.trans (show _=xs ++ [zx] by rw [←ex]; rfl))
    have HA:=hid (HCT.out.1.trans (show _=a from rfl))
    have HB:=hid (HCT.out.2.trans (show _=b from rfl))
    clear hcz hzx ex hgv hab
    go_upto_region 23 with fail
    refine wp_forget0 (w0:=w31) (B:=w31.heap.size) (by exact belBy) ?_
    intro w5 hb
    have z5:=hb.size
    have ho5:=own_below HI3.out.1 hb
    have HB5:=hid (And.intro (HI3.out.2.1.past hb) (And.intro (HI3.out.2.2.1.past hb) (HI3.out.2.2.2.1.trans (hb.mono (by omega)))))
    have hw5:=HB5.out.2.2.size
    clear hb HI3 cell_q froz_q lt_q fx hxlt hx0
    go_wp2_with (at_builtin; refine app_ints rfl _ _ rfl (base:=w.heap.size) (L:=xs) (v:=Value.slice A' j k') rfl (ho5.alloc _) (by simp; omega) [zx] rfl rfl (top_cells _ [_] _) hb1 ?_)
    intro A1 k1 w8 ho8 hg8 hl8
    have hlo:=own_in ho5
    have hgg:=grown_alloc hg8
    have HF:=hid (And.intro ho8 (And.intro (gr_blk hgg HB5.out.1 (own_ne_obj ho5 HB5.out.1 (by decide))) (And.intro (gr_blk hgg HB5.out.2.1 (own_ne_obj ho5 HB5.out.2.1 (by decide))) (gr_below hgg HB5.out.2.2 (by omega) (fun p hp=>by have:=(hlo p hp).1; omega)))))
    clear ho8 hg8 hl8 ho5 hlo hgg
    go_wp2
    go_roundw
    case rel=>exact ⟨j + 1,k1,A1,by omega,by go_num,by rw [HA.out],by rw [HB.out],rfl,by rw [HE.out]; exact HF.out.1,HF.out.2.1,HF.out.2.2.1,HF.out.2.2.2⟩
    case measure=>simp [intOf]; omega
   ·obtain rfl:k=2:=hk
    have hbl:=HLT.out.2.1 _ _ HLT.out.2.2
    have hzx:cs[b]? = some (cs.getD b 0):=by rw [List.getD_eq_getElem?_getD,List.getElem?_eq_getElem (by omega)]; rfl
    obtain ⟨bz,oz,rfl,hBz,hcz⟩:=Cells.at_ (HC.out.2.2.2.1.below HI3.out.2.2.2.1) (ints_get hzx)
    have fx:=hcz _ _ (ints_get hzx)
    have hxlt:(b:Int) < (cs.length:Int):=by omega
    have hx0:(0:Int)≤(b:Int):=by omega
    obtain ⟨zx,ex⟩:∃ z,cs.getD b 0=z:=⟨_,rfl⟩
    rw [ex] at fx
    have hp1:=HI3.out.2.2.1
    have cell_p:=hp1.cell
    have lt_p:=hp1.lt
    have HE:=hid (HST.out.trans (show _=xs ++ [zx] by rw [←ex]; rfl))
    have HA:=hid (HCT.out.1.trans (show _=a from rfl))
    have HB:=hid (HCT.out.2.trans (show _=b + 1 from rfl))
    clear hcz hzx ex hgv hbl hp1
    go_upto_region 23 with fail
    refine wp_forget0 (w0:=w31) (B:=w31.heap.size) (by exact belBy) ?_
    intro w5 hb
    have z5:=hb.size
    have ho5:=own_below HI3.out.1 hb
    have HB5:=hid (And.intro (HI3.out.2.1.past hb) (And.intro (HI3.out.2.2.1.past hb) (HI3.out.2.2.2.1.trans (hb.mono (by omega)))))
    have hw5:=HB5.out.2.2.size
    clear hb HI3 cell_q froz_q lt_q fx hxlt hx0 cell_p lt_p
    go_wp2_with (at_builtin; refine app_ints rfl _ _ rfl (base:=w.heap.size) (L:=xs) (v:=Value.slice A' j k') rfl (ho5.alloc _) (by simp; omega) [zx] rfl rfl (top_cells _ [_] _) hb1 ?_)
    intro A1 k1 w8 ho8 hg8 hl8
    have hlo:=own_in ho5
    have hgg:=grown_alloc hg8
    have HF:=hid (And.intro ho8 (And.intro (gr_blk hgg HB5.out.1 (own_ne_obj ho5 HB5.out.1 (by decide))) (And.intro (gr_blk hgg HB5.out.2.1 (own_ne_obj ho5 HB5.out.2.1 (by decide))) (gr_below hgg HB5.out.2.2 (by omega) (fun p hp=>by have:=(hlo p hp).1; omega)))))
    clear ho8 hg8 hl8 ho5 hlo hgg
    go_wp2
    go_roundw
    case rel=>exact ⟨j + 1,k1,A1,by omega,by go_num,by rw [HA.out],by rw [HB.out]; go_num,rfl,by rw [HE.out]; exact HF.out.1,HF.out.2.1,HF.out.2.2.1,HF.out.2.2.2⟩
    case measure=>simp [intOf]; omega
   ·obtain rfl:k=3:=hk
    have hab:=gate_is34 hgv (.inl rfl)
    dsimp only at hab
    obtain ⟨x,rfl⟩:=Int.eq_ofNat_of_zero_le hab.1.1
    obtain ⟨y,rfl⟩:=Int.eq_ofNat_of_zero_le hab.2.1
    have hzx:xs[x]? = some (xs.getD x 0):=by rw [List.getD_eq_getElem?_getD,List.getElem?_eq_getElem (by omega)]; rfl
    have hzy:xs[y]? = some (xs.getD y 0):=by rw [List.getD_eq_getElem?_getD,List.getElem?_eq_getElem (by omega)]; rfl
    obtain ⟨bz,oz,rfl,hBz,hcz⟩:=Cells.at_ (Cells.of_own HI3.out.1) (ints_get hzx)
    have fx:=hcz _ _ (ints_get hzx)
    have hlx:=getD_label HLAB.out x
    have hxlt:(x:Int) < (j:Int):=by omega
    have hx0:(0:Int)≤(x:Int):=by omega
    obtain ⟨zx,ex⟩:∃ z,xs.getD x 0=z:=⟨_,rfl⟩
    rw [ex] at fx hlx
    have fy:=hcz _ _ (ints_get hzy)
    have hly:=getD_label HLAB.out y
    have hylt:(y:Int) < (j:Int):=by omega
    have hy0:(0:Int)≤(y:Int):=by omega
    obtain ⟨zy,ey⟩:∃ z,xs.getD y 0=z:=⟨_,rfl⟩
    rw [ey] at fy hly
    clear hcz hzx hzy
    have q0:=cell_q 0
    have q1:=cell_q 1
    have q2:=cell_q 2
    dsimp at q0 q1 q2
    have HE:=hid (HST.out.trans (show _=xs ++ [xorI zx zy] by rw [←ex,←ey]; rfl))
    have HA:=hid (HCT.out.1.trans (show _=a from rfl))
    have HB:=hid (HCT.out.2.trans (show _=b from rfl))
    clear hgv hab ex ey
    go_upto_region 17 with fail
    go_quiet (fail)
    go_upto_region 23 with fail
    refine wp_forget0 (w0:=w31) (B:=w31.heap.size) (by exact belBy) ?_
    intro w5 hb
    have z5:=hb.size
    have ho5:=own_below HI3.out.1 hb
    have HB5:=hid (And.intro (HI3.out.2.1.past hb) (And.intro (HI3.out.2.2.1.past hb) (HI3.out.2.2.2.1.trans (hb.mono (by omega)))))
    have hw5:=HB5.out.2.2.size
    clear hb HI3 cell_q froz_q lt_q fx fy hlx hly hxlt hylt hx0 hy0 q0 q1 q2
    go_wp2_with (at_builtin; refine app_ints rfl _ _ rfl (base:=w.heap.size) (L:=xs) (v:=Value.slice (some ⟨bz,oz,none⟩) j k') rfl (ho5.alloc _) (by simp; omega) [xorI zx zy] rfl rfl (top_cells _ [_] _) hb1 ?_)
    intro A1 k1 w8 ho8 hg8 hl8
    have hlo:=own_in ho5
    have hgg:=grown_alloc hg8
    have HF:=hid (And.intro ho8 (And.intro (gr_blk hgg HB5.out.1 (own_ne_obj ho5 HB5.out.1 (by decide))) (And.intro (gr_blk hgg HB5.out.2.1 (own_ne_obj ho5 HB5.out.2.1 (by decide))) (gr_below hgg HB5.out.2.2 (by omega) (fun p hp=>by have:=(hlo p hp).1; omega)))))
    clear ho8 hg8 hl8 ho5 hlo hgg
    go_wp2
    go_roundw
    case rel=>exact ⟨j + 1,k1,A1,by omega,by go_num,by rw [HA.out],by rw [HB.out],rfl,by rw [HE.out]; exact HF.out.1,HF.out.2.1,HF.out.2.2.1,HF.out.2.2.2⟩
    case measure=>simp [intOf]; omega
   ·obtain rfl:k=4:=hk
    have hab:=gate_is34 hgv (.inr rfl)
    dsimp only at hab
    obtain ⟨x,rfl⟩:=Int.eq_ofNat_of_zero_le hab.1.1
    obtain ⟨y,rfl⟩:=Int.eq_ofNat_of_zero_le hab.2.1
    have hal4:=HLT.out.1 _ _ HLT.out.2.2
    have hzx:xs[x]? = some (xs.getD x 0):=by rw [List.getD_eq_getElem?_getD,List.getElem?_eq_getElem (by omega)]; rfl
    have hzy:xs[y]? = some (xs.getD y 0):=by rw [List.getD_eq_getElem?_getD,List.getElem?_eq_getElem (by omega)]; rfl
    obtain ⟨bz,oz,rfl,hBz,hcz⟩:=Cells.at_ (Cells.of_own HI3.out.1) (ints_get hzx)
    have fx:=hcz _ _ (ints_get hzx)
    have hlx:=getD_label HLAB.out x
    have hxlt:(x:Int) < (j:Int):=by omega
    have hx0:(0:Int)≤(x:Int):=by omega
    obtain ⟨zx,ex⟩:∃ z,xs.getD x 0=z:=⟨_,rfl⟩
    rw [ex] at fx hlx
    have fy:=hcz _ _ (ints_get hzy)
    have hly:=getD_label HLAB.out y
    have hylt:(y:Int) < (j:Int):=by omega
    have hy0:(0:Int)≤(y:Int):=by omega
    obtain ⟨zy,ey⟩:∃ z,xs.getD y 0=z:=⟨_,rfl⟩
    rw [ey] at fy hly
    clear hcz hzx hzy
    have ht0:ts[2 * a]? = some (ts.getD (2 * a) 0):=by rw [List.getD_eq_getElem?_getD,List.getElem?_eq_getElem (by omega)]; rfl
    have ht1:ts[2 * a + 1]? = some (ts.getD (2 * a + 1) 0):=by rw [List.getD_eq_getElem?_getD,List.getElem?_eq_getElem (by omega)]; rfl
    obtain ⟨bt,ot,rfl,hBt,hct⟩:=Cells.at_ (HC.out.2.2.1.below HI3.out.2.2.2.1) (ints_get ht0)
    have fg:=hct _ _ (ints_get ht0)
    have fe:=hct _ _ (ints_get ht1)
    have hlg:=getD_label HT.out (2 * a)
    have hle:=getD_label HT.out (2 * a + 1)
    obtain ⟨zg,eg⟩:∃ z,ts.getD (2 * a) 0=z:=⟨_,rfl⟩
    obtain ⟨ze,ee⟩:∃ z,ts.getD (2 * a + 1) 0=z:=⟨_,rfl⟩
    rw [eg] at fg hlg
    rw [ee] at fe hle
    have t0:(2 * (a:Int)).toNat=2 * a:=by omega
    have t1:(2 * (a:Int) + 1).toNat=2 * a + 1:=by omega
    have a00:(0:Int)≤(a:Int):=by omega
    have a6:(a:Int)≤6000:=by omega
    have b00:(0:Int)≤2 * (a:Int):=by omega
    have b01:(0:Int)≤2 * (a:Int) + 1:=by omega
    have b10:2 * (a:Int) < (ts.length:Int):=by omega
    have b11:2 * (a:Int) + 1 < (ts.length:Int):=by omega
    have KA:=hid (fun w=>iEvalAnd zx zy zg ze j w hlx hly hlg hle (by omega))
    have HE:=hid (HST.out.trans (show _=xs ++ [evA zx zy zg ze (j:Int)] by rw [←ex,←ey,←eg,←ee]; rfl))
    have HA:=hid (HCT.out.1.trans (show _=a + 1 from rfl))
    have HB:=hid (HCT.out.2.trans (show _=b from rfl))
    clear hgv hab ex ey eg ee hct ht0 ht1 hlx hly hlg hle hal4
    have q0:=cell_q 0
    dsimp at q0
    go_upto_region 21 with fail
    refine wp_forget0 (w0:=w31) (B:=w31.heap.size) (by exact belBy) ?_
    intro w32 hb32
    have z32:=hb32.size
    have HI4:=hid (And.intro (own_below HI3.out.1 hb32) (And.intro (HI3.out.2.1.past hb32) (And.intro (HI3.out.2.2.1.past hb32) (And.intro (HI3.out.2.2.2.1.trans (hb32.mono (by omega))) (HI3.out.2.2.2.2.past hb32)))))
    have HFX:=hid (And.intro ((hb32.cell (p:=⟨bz,oz + x,none⟩) (by dsimp only; omega)).trans fx) (And.intro ((hb32.cell (p:=⟨bz,oz + y,none⟩) (by dsimp only; omega)).trans fy) (And.intro ((hb32.cell (p:=⟨bt,ot + 2 * a,none⟩) (by dsimp only; omega)).trans fg) ((hb32.cell (p:=⟨bt,ot + (2 * a + 1),none⟩) (by dsimp only; omega)).trans fe))))
    clear fx fy fg fe q0 hb32 cell_q froz_q lt_q HI3
    have qq:=fun (x:Later w32) (o:Nat)=>(HI4.out.2.2.2.2.past x.below).cell o
    have qp:=fun (x:Later w32) (o:Nat)=>(HI4.out.2.2.1.past x.below).cell o
    have fx:=fun (X:Later w32)=>(X.below.cell (p:=⟨bz,oz + x,none⟩) (by dsimp only; omega)).trans HFX.out.1
    have fy:=fun (X:Later w32)=>(X.below.cell (p:=⟨bz,oz + y,none⟩) (by dsimp only; omega)).trans HFX.out.2.1
    have fg:=fun (X:Later w32)=>(X.below.cell (p:=⟨bt,ot + 2 * a,none⟩) (by dsimp only; omega)).trans HFX.out.2.2.1
    have fe:=fun (X:Later w32)=>(X.below.cell (p:=⟨bt,ot + (2 * a + 1),none⟩) (by dsimp only; omega)).trans HFX.out.2.2.2
    refine wp_region_later (by kernel_rfl) (by kernel_rfl) ?_
    repeat (go_big_quiet_step ((go_at_call 111; with_reducible exact Calls.later (KA.out _))))
    refine wpQuiet_nil ?_
    rintro _ ⟨⟨w41,hb41⟩,rfl⟩
    try dsimp only
    have z41:=hb41.size
    clear qq qp fx fy fg fe HFX
    go_upto_region 23 with fail
    refine wp_forget0 (w0:=w32) (B:=w32.heap.size) (by exact belBy) ?_
    intro w5 hb
    have z5:=hb.size
    have ho5:=own_below HI4.out.1 hb
    have HB5:=hid (And.intro (HI4.out.2.1.past hb) (And.intro (HI4.out.2.2.1.past hb) (HI4.out.2.2.2.1.trans (hb.mono (by omega)))))
    have hw5:=HB5.out.2.2.size
    clear hb HI4 hxlt hylt hx0 hy0
    go_wp2_with (at_builtin; refine app_ints rfl _ _ rfl (base:=w.heap.size) (L:=xs) (v:=Value.slice (some ⟨bz,oz,none⟩) j k') rfl (ho5.alloc _) (by simp; omega) [evA zx zy zg ze (j:Int)] rfl rfl (top_cells _ [_] _) hb1 ?_)
    intro A1 k1 w8 ho8 hg8 hl8
    have hlo:=own_in ho5
    have hgg:=grown_alloc hg8
    have HF:=hid (And.intro ho8 (And.intro (gr_blk hgg HB5.out.1 (own_ne_obj ho5 HB5.out.1 (by decide))) (And.intro (gr_blk hgg HB5.out.2.1 (own_ne_obj ho5 HB5.out.2.1 (by decide))) (gr_below hgg HB5.out.2.2 (by omega) (fun p hp=>by have:=(hlo p hp).1; omega)))))
    clear ho8 hg8 hl8 ho5 hlo hgg
    go_wp2
    go_roundw
    case rel=>exact ⟨j + 1,k1,A1,by omega,by go_num,by rw [HA.out]; go_num,by rw [HB.out],rfl,by rw [HE.out]; exact HF.out.1,HF.out.2.1,HF.out.2.2.1,HF.out.2.2.2⟩
    case measure=>simp [intOf]; omega
   ·obtain rfl:k=5:=hk
    have hab:=(gate_is5 hgv rfl).1
    dsimp only at hab
    obtain ⟨x,rfl⟩:=Int.eq_ofNat_of_zero_le hab.1
    have hzx:xs[x]? = some (xs.getD x 0):=by rw [List.getD_eq_getElem?_getD,List.getElem?_eq_getElem (by omega)]; rfl
    obtain ⟨bz,oz,rfl,hBz,hcz⟩:=Cells.at_ (Cells.of_own HI3.out.1) (ints_get hzx)
    have fx:=hcz _ _ (ints_get hzx)
    have hlx:=getD_label HLAB.out x
    have hxlt:(x:Int) < (j:Int):=by omega
    have hx0:(0:Int)≤(x:Int):=by omega
    obtain ⟨zx,ex⟩:∃ z,xs.getD x 0=z:=⟨_,rfl⟩
    rw [ex] at fx hlx
    clear hcz hzx
    have HE:=hid (HST.out.trans (show _=xs ++ [zx] by rw [←ex]; rfl))
    have HA:=hid (HCT.out.1.trans (show _=a from rfl))
    have HB:=hid (HCT.out.2.trans (show _=b from rfl))
    clear hgv hab ex
    go_upto_region 23 with fail
    refine wp_forget0 (w0:=w31) (B:=w31.heap.size) (by exact belBy) ?_
    intro w5 hb
    have z5:=hb.size
    have ho5:=own_below HI3.out.1 hb
    have HB5:=hid (And.intro (HI3.out.2.1.past hb) (And.intro (HI3.out.2.2.1.past hb) (HI3.out.2.2.2.1.trans (hb.mono (by omega)))))
    have hw5:=HB5.out.2.2.size
    clear hb HI3 cell_q froz_q lt_q fx hlx hxlt hx0
    go_wp2_with (at_builtin; refine app_ints rfl _ _ rfl (base:=w.heap.size) (L:=xs) (v:=Value.slice (some ⟨bz,oz,none⟩) j k') rfl (ho5.alloc _) (by simp; omega) [zx] rfl rfl (top_cells _ [_] _) hb1 ?_)
    intro A1 k1 w8 ho8 hg8 hl8
    have hlo:=own_in ho5
    have hgg:=grown_alloc hg8
    have HF:=hid (And.intro ho8 (And.intro (gr_blk hgg HB5.out.1 (own_ne_obj ho5 HB5.out.1 (by decide))) (And.intro (gr_blk hgg HB5.out.2.1 (own_ne_obj ho5 HB5.out.2.1 (by decide))) (gr_below hgg HB5.out.2.2 (by omega) (fun p hp=>by have:=(hlo p hp).1; omega)))))
    clear ho8 hg8 hl8 ho5 hlo hgg
    go_wp2
    go_roundw
    case rel=>exact ⟨j + 1,k1,A1,by omega,by go_num,by rw [HA.out],by rw [HB.out],rfl,by rw [HE.out]; exact HF.out.1,HF.out.2.1,HF.out.2.2.1,HF.out.2.2.2⟩
    case measure=>simp [intOf]; omega
  ·obtain rfl:j=gs.length:=by omega
   have HI:=hid (And.intro hown hbw)
   clear hown hbw hp0 hx0
   go_wp2
   ((try simp only [Exit.inBlock,Exit.then]); apply bodyPost_ret0; focus ((try simp only [results,Tryz.results52]); (try go_simp); (try rfl)))
   exact ⟨A',k',rfl,HI.out.1,HI.out.2⟩
open Go.RowKit
theorem tail_run {P:Program} {ops:Array Oper} {Q:Exit→Act→World→Prop} {n:Nat} (hc:Region.chainB .any ops n=true) (htopo:topoB ops=true) :
  ∀ (l2:List Oper) (k:Nat) (listed:Array Bool) (a:Act) (w:World),n≤k→(∀ j,l2[j]? = ops[k + j]?)→listed.size=ops.size→(∀ i,i < k→listed.getD i true=true) →
   (∀ t,k≤t→t < ops.size→listed.getD t true=false)→wpList P ops Q l2 a w→wpAny P .any ops Q l2.length listed a w
 | [],k,listed,a,w,hnk,hl,hsz,hdone,hopen,h=>by
  have hk:ops.size≤k:=by
   rcases Nat.lt_or_ge k ops.size with h1 | h1
   ·have:=hl 0
    simp [h1] at this
   ·exact h1
  refine ⟨?_,h⟩
  cases hr:Region.ready .any ops listed with
  | nil=>rfl
  | cons t ts =>
   exfalso
   obtain ⟨hu,o,ho,_⟩:=mem_ready.1 (show t∈Region.ready .any ops listed by rw [hr]; simp)
   have hlt:t < ops.size:=(Array.getElem?_eq_some_iff.1 ho).1
   rw [hdone t (by omega)] at hu
   cases hu
 | o :: l2,k,listed,a,w,hnk,hl,hsz,hdone,hopen,h=>by
  have ho:ops[k]? = some o:=by simpa using (hl 0).symm
  have hks:k < ops.size:=(Array.getElem?_eq_some_iff.1 ho).1
  have hkr:k∈Region.ready .any ops listed:=by
   refine mem_ready.2 ⟨hopen k (Nat.le_refl _) hks,o,ho,fun e he hb=>?_⟩
   exact getD_both' (hdone _ (topo_spec htopo ho e he hb)) (by rw [hsz]; have:=topo_spec htopo ho e he hb; omega)
  refine ⟨fun h0=>(by rw [h0] at hkr; cases hkr),fun i hi=>?_⟩
  have hik:i=k:=by
   obtain ⟨hu,oi,hoi,hall⟩:=mem_ready.1 hi
   have hilt:i < ops.size:=(Array.getElem?_eq_some_iff.1 hoi).1
   rcases Nat.lt_trichotomy i k with h1 | h1 | h1
   ·rw [hdone i h1] at hu
    cases hu
   ·exact h1
   ·exfalso
    have h2:=List.all_eq_true.1 hc i (List.mem_range.2 hilt)
    simp only [Bool.or_eq_true,decide_eq_true_eq] at h2
    rcases h2 with h2 | h2
    ·omega
    ·obtain ⟨o',ho',e,he,hb,hon⟩:=Region.waitsFor_spec h2
     have:o'=oi:=Option.some.inj (ho'.symm.trans hoi)
     subst this
     have h3:=hall e he hb
     rw [hon,getD_both (hopen (i - 1) (by omega) (by omega))] at h3
     cases h3
  subst hik
  have hrest:∀ a' w',wpList P ops Q l2 a' w'→wpAny P .any ops Q l2.length (listed.setIfInBounds i true) a' w':=fun a' w' h' =>
   tail_run hc htopo l2 (i + 1) _ a' w' (by omega) (fun j=>by have:=hl (j + 1); simpa [Nat.add_assoc,Nat.add_comm 1 j] using this) (by simp [hsz])
    (fun q hq=>by
     by_cases hqi:q=i
     ·subst hqi
      simp [hsz,hks]
     ·rw [getD_set_ne true (fun e=>hqi e.symm)]
      exact hdone q (by omega))
    (fun t ht hts=>by
     rw [getD_set_ne true (by omega)]
     exact hopen t (by omega) hts) h'
  have hw:wpOp P ops Q i (wpList P ops Q l2) a w:=by unfold wpOp; simp only [ho]; exact h
  exact wpOp_mono hrest hw
def growTailsB (ops:Array Oper) (n:Nat):Bool:=Region.noSelect ops && topoB ops && apartB ops n && decide (n < ops.size) && Region.sinkB .any ops n && Region.chainB .any ops n
theorem wp_grow_tails {P:Program} {spec:Nat→GSpec} {Q:Exit→Act→World→Prop} {a:Act} {w W:World} {id:Nat} {l:List Oper}
  (n:Nat) (hm:P.follows .mixedOrders=true) (hB:growTailsB l.toArray n=true) (hW:Onward W w.drew) (hstab:∀ k F,spec k=.any F→∀ v w w',F v w→Grows w w'→F v w')
  (h:gList P l.toArray (Onward W) Grows spec (fun fs a'=>∀ w',Onward W w'→(∀ j,fs j w')→wpList P l.toArray Q (l.drop n) a' w') 0 (l.take n) Facts.none a):(Code.region id l.toArray true).wp P Q a w:=by
 simp only [growTailsB,Bool.and_eq_true,decide_eq_true_eq] at hB
 obtain ⟨⟨⟨⟨⟨hsel,htopo⟩,hap⟩,hn⟩,hsink⟩,hchain⟩:=hB
 refine wp_region_any hm ?_
 have hnl:n < l.length:=by simpa using hn
 have hns:n < l.toArray.size:=hn
 have htl:(l.take n).length=n:=by simp; omega
 have hdl:(l.drop n).length=l.toArray.size - n:=by simp
 have h2:=gList_walk (n:=0) (l.take n) 0 Facts.none a (fun j hj=>by
  rw [htl] at hj
  simp [hj]) h
 rw [htl] at h2
 have H:=gAny (P:=P) (g:=l.toArray.size - n) (Q:=Q) (n:=n) (by omega) hsel htopo hap onward_step hstab (E:=fun fs a'=>∀ w',Onward W w'→(∀ j,fs j w')→wpList P l.toArray Q (l.drop n) a' w')
  (fun listed fs a' w' inv hnil hC hfs hE=>by
   have hT:=hE w' hC hfs
   have hall:∀ i,i < n→listed.getD i true=true:=fun i hi=>by
    cases hh:listed.getD i true with
    | true=>rfl
    | false =>
     have:=mem_heads.2 ⟨hi,hh⟩
     rw [hnil] at this
     cases this
   have:=tail_run hchain htopo (l.drop n) n listed a' w' (Nat.le_refl _) (fun j=>by simp [List.getElem?_drop]) inv.size hall (fun t h1 h2=>inv.tail t h1 h2) hT
   rwa [hdl] at this)
  (fun listed inv hne t ht=>by
   rcases Nat.lt_or_ge t n with h | h
   ·exact h
   ·exfalso
    obtain ⟨i,hi⟩:∃ i,i∈heads n listed:=by
     cases hh:heads n listed with
     | nil=>exact absurd hh hne
     | cons k ks=>exact ⟨k,by simp⟩
    have hi':=mem_heads.1 hi
    exact tail_waits hsink hchain hns inv (n - i) i rfl hi'.1 hi'.2 t h ht)
  n (Array.replicate l.toArray.size false) Facts.none a w.drew (inv_start _ _) (by rw [heads_all _ _ (by omega)]; simp) (by rw [heads_all _ _ (by omega)]; exact h2) hW (fun _=>trivial) (fun _ _ _ _ _=>trivial)
 rw [show n + (l.toArray.size - n)=l.toArray.size by omega] at H
 exact H
def specAt (l:List (Nat × GSpec)) (k:Nat):GSpec:=match l.lookup k with
 | some s=>s
 | none=>.det
theorem specAt_stab:∀ {l:List (Nat × GSpec)},(∀ p∈l,∀ F,p.2=.any F→∀ v w w',F v w→Grows w w'→F v w')→∀ k F,specAt l k=.any F→∀ v w w',F v w→Grows w w'→F v w':=by
 intro l h k F hk
 unfold specAt at hk
 split at hk
 ·rename_i G hG
  subst hk
  have:∀ (l:List (Nat × GSpec)),l.lookup k=some (.any F)→∃ p∈l,p.2=.any F:=by
   intro l
   induction l with
   | nil=>intro h; cases h
   | cons p l ih =>
    intro h
    obtain ⟨a,b⟩:=p
    rw [List.lookup_cons] at h
    split at h
    ·cases h
     exact ⟨_,List.mem_cons_self,rfl⟩
    ·obtain ⟨p,hp,e⟩:=ih h
     exact ⟨p,List.mem_cons_of_mem _ hp,e⟩
  obtain ⟨p,hp,e⟩:=this l hG
  exact h p hp F e
 ·cases hk
theorem gList_quietK {P:Program} {ops:Array Oper} {C:World→Prop} {R:World→World→Prop} {spec:Nat→GSpec} {E:Facts→Act→Prop} (m:Nat) {l:List Oper} {k:Nat} {fs:Facts} {a:Act} (hd:detsFrom spec k (l.take m)) (hm:m≤l.length)
  (h:wpQuiet P ops C (fun a'=>gList P ops C R spec E (k + m) (l.drop m) fs a') (l.take m) a):gList P ops C R spec E k l fs a:=by
 have h1:=gList_quiet (l.take m) (l2:=l.drop m) hd (E:=E) (R:=R) (fs:=fs) (a:=a) (P:=P) (ops:=ops) (C:=C) (by rw [List.length_take,Nat.min_eq_left hm]; exact h)
 rwa [List.take_append_drop] at h1
theorem grow_con {P:Program} {f:FuncId} {args:Array Value} {w:World} {c:Value} {o:Oper} {a:Act} (hr:(execOp a.eval o).run P w=.ok (.enter f args) w)
  (h:Calls P f args w fun e w''=>e=.returned c∧Below w.heap.size w w''):growUpon P Grows (fun v _=>v=c) w ((execOp a.eval o).run P w) :=
 grow_call hr (h.mono fun _ _ ⟨he,hb⟩=>⟨c,he,hb,rfl⟩)
end Go.Proofs.YtihbaieiempjeaaGreat
