/- Lemmas of the proof: DrawR, Cc, Comp. -/
import Derived.Test.YtihbaieiempjeaaGreatC0
import Derived.Test.YtihbaieiempjeaaGreatC3
import Derived.Test.YtihbaieiempjeaaGreatC1
namespace Go.Proofs.YtihbaieiempjeaaGreat
open Go.RowKit
theorem infoStmQ:(Tryz.prog.info? 73).map (fun i=>(i.zero,i.size,i.bytes))=some (some (.agg #[.int .i64 0,.int .i64 0,.int .i64 0,.int .i64 0,.int .i64 0,.int .i64 0]),6,48):=by kernel_rfl
theorem stmt_one (x0 x1 x2 x3 x4 x5:Int):∀ u∈[Value.int .i64 x0,.int .i64 x1,.int .i64 x2,.int .i64 x3,.int .i64 x4,.int .i64 x5],u.oneCell'=true:=by
 intro u hu
 simp at hu
 rcases hu with rfl | rfl | rfl | rfl | rfl | rfl <;> rfl
def ProgS (w:World) (p n c:Nat) (A:Option Addr) (k:Nat) (o:Value) (wr:World):Prop :=
 ∃ (L:List St) (A':Option Addr) (c':Nat),(L.length=2 + k∧∀ s∈L,PlainSt s)∧o=.slice A' (2 + k) c'∧wr.ownsRow w.heap.size 73 6 (.slice A' (2 + k) c') (2 + k) (ints (flatS L))∧Cur wr p A n c∧Touch [p] w wr
theorem ints_cat (a b:List Int):ints (a ++ b)=ints a ++ ints b:=by simp [ints]
theorem first2:∀ s∈[(⟨2,0,0,0,0,0⟩:St),⟨2,1,1,0,0,0⟩],PlainSt s:=by
 intro s hs
 simp only [List.mem_cons,List.not_mem_nil,or_false] at hs
 rcases hs with rfl | rfl
 ·exact pl2 (by decide) (by decide) (by decide)
 ·exact pl2 (by decide) (by decide) (by decide)
theorem snoc_is {L:List St} {k:Nat} {s:St} (h:L.length=2 + k∧∀ s∈L,PlainSt s) (hs:PlainSt s):(L ++ [s]).length=2 + (k + 1)∧∀ x∈L ++ [s],PlainSt x:=by
 refine ⟨by rw [List.length_append,h.1]; rfl,fun x hx=>?_⟩
 rw [List.mem_append,List.mem_singleton] at hx
 rcases hx with hx | rfl
 ·exact h.2 x hx
 ·exact hs
set_option maxRecDepth 100000 in
set_option maxHeartbeats 1600000 in
theorem program_is (p:Nat) (A:Option Addr) (c:Nat) (bs:List Int) (w:World) (hc:Cur w p A bs.length c) (hb:Bytes w p A bs) :
  Calls Tryz.prog 37 #[.pointer (some ⟨p,0,none⟩)] w fun e w'=>∃ (L:List St) (A':Option Addr) (c':Nat),(L.length≤7∧∀ s∈L,PlainSt s)∧e=.returned (.slice A' L.length c')∧w'.ownsRow w.heap.size 73 6 (.slice A' L.length c') L.length (ints (flatS L))∧Cur w' p A bs.length c∧Touch [p] w w':=by
 have HB:=hid hb
 have HC:=hid hc
 have hp:=hc.lt
 clear hb hc
 go_enter Tryz.func37,Tryz.ntmps37
 go_wp2_with fail
 go_loopw [3,4] (fun o i wr=>∃ k:Nat,k≤4∧i=.int .i64 k∧ProgS w p bs.length c A k o wr) (fun _ i _=>4 - (intOf i).toNat)
 case atStart=>exact ⟨0,Nat.zero_le _,rfl,[⟨2,0,0,0,0,0⟩,⟨2,1,1,0,0,0⟩],some ⟨w.heap.size,0,none⟩,2,⟨rfl,first2⟩,rfl,own_lit (size:=6) #[.int .i64 2,.int .i64 0,.int .i64 0,.int .i64 0,.int .i64 0,.int .i64 0,.int .i64 2,.int .i64 1,.int .i64 1,.int .i64 0,.int .i64 0,.int .i64 0] 2 rfl (Nat.le_refl _) (by decide) rfl,HC.out.alloc _,(Touch.refl _ _).alloc _⟩
 case round =>
  obtain ⟨k,hk,rfl,L,A',c',hLL,rfl,hown,hcu,htw⟩:=hrel
  have HLL:=hid hLL
  clear hLL
  have zw:=htw.size
  have HO:=hid hown
  have HU:=hid hcu
  have HD:=hid htw
  clear hown hcu htw
  go_wp2_with fail
  refine (below_any 4 _ _ _ _ _ (by omega) (by omega) HU.out (HB.out.touch HD.out (by omega))).mono ?_
  rintro e w2 ⟨r,rfl,hr0,hr1,hc2,hT⟩
  have z2:=hT.size
  have HO2:=hid (own_touch' hT HO.out (fun q hq=>by have h1:=own_in HO.out q hq; simp; omega))
  have HU2:=hid hc2
  have HD2:=hid (HD.out.trans hT)
  clear hc2 hT
  by_cases hlt:(k:Int) < r
  ·go_wp2_with fail
   refine (stmt_is _ _ _ _ _ HU2.out (HB.out.touch HD2.out (by omega))).mono ?_
   rintro e w3 ⟨st,hst,rfl,hc3,hT⟩
   have HST:=hid hst
   clear hst
   have z3:=hT.size
   have HO3:=hid (own_touch' hT HO2.out (fun q hq=>by have h1:=own_in HO2.out q hq; simp; omega))
   have HU3:=hid hc3
   have HD3:=hid (HD2.out.trans hT)
   clear hc3 hT
   go_wp2_with (at_builtin; go_loud (refine wpList_appi rfl _ _ 24 rfl w.heap.size 73 (.agg #[.int .i64 0,.int .i64 0,.int .i64 0,.int .i64 0,.int .i64 0,.int .i64 0]) 6 48 Tryz.underlying24 infoStmQ rfl (by decide) _ (2 + k) _ rfl (HO3.out.alloc _) ⟨w3.heap.size,0,none⟩ 1 1 _ rfl rfl (many_new _ [.int .i64 st.o,.int .i64 st.d,.int .i64 st.a,.int .i64 st.b,.int .i64 st.c,.int .i64 st.n] _) (stmt_one _ _ _ _ _ _) (by omega) (by decide) (by simp; omega) ?_))
   intro A3 c3 w4 ho4 hg4 li4
   have hg:=grown_alloc hg4
   have z4:=hg.size
   have hlo:∀ q,(Value.slice A' (2 + k) c').ownBlock=some q→w.heap.size≤q:=fun q hq=>(own_in HO3.out q hq).1
   have hc4:=HU3.out.grown hg (fun q hq=>by have h1:=hlo q hq; omega)
   have ht4:=HD3.out.grown hg hlo
   have HO4:=hid ho4
   have HU4:=hid hc4
   have HD4:=hid ht4
   clear hg hg4 li4 hlo ho4 hc4 ht4
   go_wp2
   go_roundw
   case rel=>exact ⟨k + 1,by omega,by go_num,L ++ [st],A3,c3,snoc_is HLL.out HST.out,rfl,by rw [flatS_snoc,ints_cat]; exact HO4.out,HU4.out,HD4.out⟩
   case measure=>simp [intOf]; omega
  ·go_wp2_with fail
   refine (below_any 4 _ _ _ _ _ (by omega) (by omega) HU2.out (HB.out.touch HD2.out (by omega))).mono ?_
   rintro e w3 ⟨x,rfl,hx0,hx1,hc3,hT⟩
   have z3:=hT.size
   have HO3:=hid (own_touch' hT HO2.out (fun q hq=>by have h1:=own_in HO2.out q hq; simp; omega))
   have HU3:=hid hc3
   have HD3:=hid (HD2.out.trans hT)
   clear hc3 hT
   go_wp2_with (at_builtin; go_loud (refine wpList_appi rfl _ _ 24 rfl w.heap.size 73 (.agg #[.int .i64 0,.int .i64 0,.int .i64 0,.int .i64 0,.int .i64 0,.int .i64 0]) 6 48 Tryz.underlying24 infoStmQ rfl (by decide) _ (2 + k) _ rfl (HO3.out.alloc _) ⟨w3.heap.size,0,none⟩ 1 1 _ rfl rfl (many_new _ [.int .i64 11,.int .i64 0,.int .i64 x,.int .i64 0,.int .i64 0,.int .i64 0] _) (stmt_one _ _ _ _ _ _) (by omega) (by decide) (by simp; omega) ?_))
   intro A3 c3 w4 ho4 hg4 li4
   have hg:=grown_alloc hg4
   have z4:=hg.size
   have hlo:∀ q,(Value.slice A' (2 + k) c').ownBlock=some q→w.heap.size≤q:=fun q hq=>(own_in HO3.out q hq).1
   have hc4:=HU3.out.grown hg (fun q hq=>by have h1:=hlo q hq; omega)
   have ht4:=HD3.out.grown hg hlo
   have HO4:=hid ho4
   have HU4:=hid hc4
   have HD4:=hid ht4
   clear hg hg4 li4 hlo ho4 hc4 ht4
   go_wp2
   go_ret
   have hf:=snoc_is HLL.out (pl11 (a:=x) (by omega))
   have hl:(L ++ [(⟨11,0,x,0,0,0⟩:St)]).length=2 + (k + 1):=hf.1
   refine ⟨L ++ [(⟨11,0,x,0,0,0⟩:St)],A3,c3,⟨by omega,hf.2⟩,by rw [hl]; rfl,?_,HU4.out,HD4.out⟩
   rw [hl,flatS_snoc,ints_cat]
   exact HO4.out
set_option maxRecDepth 100000 in
set_option maxHeartbeats 1600000 in
theorem secure_is (A:Option Addr) (c:Nat) (bs:List Int) (w:World) (hb:Bytes w w.heap.size A bs) :
  Calls Tryz.prog 10 #[.slice A bs.length c] w fun e w'=>∃ (L:List St) (Ap:Option Addr) (cp:Nat) (ls:List (Nat × Nat × List Int)) (A':Option Addr) (c':Nat) (s a s' a' q:Int),
   ((L.length≤7∧∀ s∈L,PlainSt s)∧ls.length=5∧(tapeOkB s a=true∧a≤50)∧(tapeOkB s' a'=true∧a'≤50)∧0≤q∧q < 5)∧e=.returned (.tuple #[.slice Ap L.length cp,.slice A' 5 c',.agg #[.int .i64 s,.int .i64 a],.agg #[.int .i64 s',.int .i64 a'],.int .i64 q]) ∧
   w'.ownsRow w.heap.size 30 1 (.slice A' 5 c') 5 (insV ls)∧InsO w' w.heap.size ls∧w'.ownsRow w.heap.size 73 6 (.slice Ap L.length cp) L.length (ints (flatS L))∧Below w.heap.size w w':=by
 have HB:=hid hb
 have bc_s:=hid hb.small
 have bc_l:=hid hb.len
 have HBY:=hb.cells
 clear hb
 go_enter Tryz.func10,Tryz.ntmps10
 have b_0:=(Below.refl w.heap.size w)
 have s_0:=b_0.size
 go_upto_region 1 with fail
 refine wp_forget2 (w0:=w) (B:=w.heap.size) (b0:=w.heap.size) (t0:=27) (c0:=#[.int .i64 0,.int .i64 0]) (b1:=w.heap.size + 1) (t1:=27) (c1:=#[.int .i64 0,.int .i64 0]) ?_ ?_ ?_ ?_
 (focus exact blkcBy)
 (focus exact blkcBy)
 (focus (exact belBy))
 intro w1 r1_1 r2_1 hX1
 have sX1:=hX1.size
 have r1_lt:=r1_1.lt
 have r2_lt:=r2_1.lt
 have b_1:=b_0.trans (hX1.mono (by omega))
 clear b_0 hX1
 have cell_r1:=r1_1.cell
 have froz_r1:=r1_1.frozen
 have lt_r1:=r1_1.lt
 have cell_r2:=r2_1.cell
 have froz_r2:=r2_1.frozen
 have lt_r2:=r2_1.lt
 have HR1:=hid r1_1
 have HR2:=hid r2_1
 have HW:=hid b_1
 clear r1_1 r2_1 b_1 cell_r1 froz_r1 cell_r2 froz_r2 HBY
 go_wp2_with fail
 refine (new_any _ _ _ _ ((HB.out.step HW.out).more (by omega))).mono ?_
 rintro e w2 ⟨rfl,hc2,hb2⟩
 have s2:=hb2.size
 have z2:=hc2.lt
 have HW2:=hid (HW.out.trans (hb2.mono (by omega)))
 have R12:=hid (Blk.past hb2 HR1.out)
 have R22:=hid (Blk.past hb2 HR2.out)
 have HC2:=hid hc2
 obtain ⟨p,hp⟩:∃ p,p=w1.heap.size:=⟨_,rfl⟩
 rw [←hp] at HC2
 rw [←hp] at z2
 rw [←hp]
 have pw:w.heap.size + 1 < p:=by omega
 clear hc2 hb2 HW HR1 HR2 hp
 go_wp2_with fail
 refine (program_is p _ _ _ _ HC2.out ((HB.out.step HW2.out).more (by omega))).mono ?_
 rintro e w3 ⟨L,Ap,cp,hL,rfl,hpo,hc3,hT⟩
 have HLP:=hid hL
 have HPO3:=hid hpo
 clear hL hpo
 have z3:=hT.size
 have HC3:=hid hc3
 have HW3:=hid (hT.below HW2.out (by simp; omega))
 have R13:=hid (Blk.touch hT R12.out (by simp; omega))
 have R23:=hid (Blk.touch hT R22.out (by simp; omega))
 clear hc3 hT HC2 HW2 R12 R22
 go_wp2_with fail
 refine (inputs_any p _ _ _ _ HC3.out ((HB.out.step HW3.out).more (by omega))).mono ?_
 rintro e w4 ⟨ls,A',c',hl,rfl,hro,hio,hc4,hT⟩
 have z4:=hT.size
 have HC4:=hid hc4
 have HW4:=hid (hT.below HW3.out (by simp; omega))
 have HPO4:=hid (own_touch' hT HPO3.out (fun q hq=>by have h1:=own_in HPO3.out q hq; simp; omega))
 clear HPO3
 have R14:=hid (Blk.touch hT R13.out (by simp; omega))
 have R24:=hid (Blk.touch hT R23.out (by simp; omega))
 have HRO4:=hid hro
 have HIO4:=hid hio
 clear hc4 hT HC3 HW3 R13 R23 hro hio
 go_wp2_with fail
 refine (tape_any p _ _ _ _ HC4.out ((HB.out.step HW4.out).more (by omega))).mono ?_
 rintro e w5 ⟨s,a,rfl,ht,hc5,hT⟩
 have z5:=hT.size
 have HC5:=hid hc5
 have HW5:=hid (hT.below HW4.out (by simp; omega))
 have HPO5:=hid (own_touch' hT HPO4.out (fun q hq=>by have h1:=own_in HPO4.out q hq; simp; omega))
 clear HPO4
 have R15:=hid (Blk.touch hT R14.out (by simp; omega))
 have R25:=hid (Blk.touch hT R24.out (by simp; omega))
 have HRO5:=hid (own_touch' hT HRO4.out (fun q hq=>by have h1:=own_in HRO4.out q hq; simp; omega))
 have HIO5:=hid (HIO4.out.touch hT (by simp; omega))
 clear hc5 hT HC4 HW4 R14 R24 HRO4 HIO4
 go_wp2_with fail
 refine (tape_any p _ _ _ _ HC5.out ((HB.out.step HW5.out).more (by omega))).mono ?_
 rintro e w6 ⟨s',a',rfl,ht',hc6,hT⟩
 have z6:=hT.size
 have HC6:=hid hc6
 have HW6:=hid (hT.below HW5.out (by simp; omega))
 have HPO6:=hid (own_touch' hT HPO5.out (fun q hq=>by have h1:=own_in HPO5.out q hq; simp; omega))
 clear HPO5
 have R16:=hid (Blk.touch hT R15.out (by simp; omega))
 have R26:=hid (Blk.touch hT R25.out (by simp; omega))
 have HRO6:=hid (own_touch' hT HRO5.out (fun q hq=>by have h1:=own_in HRO5.out q hq; simp; omega))
 have HIO6:=hid (HIO5.out.touch hT (by simp; omega))
 clear hc6 hT HC5 HW5 R15 R25 HRO5 HIO5
 go_wp2_with fail
 refine (below_any 5 p _ _ _ _ (by omega) (by omega) HC6.out ((HB.out.step HW6.out).more (by omega))).mono ?_
 rintro e w7 ⟨q,rfl,q0,q1,hc7,hT⟩
 have z7:=hT.size
 have HW7:=hid (hT.below HW6.out (by simp; omega))
 have HPO7:=hid (own_touch' hT HPO6.out (fun q hq=>by have h1:=own_in HPO6.out q hq; simp; omega))
 clear HPO6
 have R17:=Blk.touch hT R16.out (by simp; omega)
 have R27:=Blk.touch hT R26.out (by simp; omega)
 have HRO7:=hid (own_touch' hT HRO6.out (fun q hq=>by have h1:=own_in HRO6.out q hq; simp; omega))
 have HIO7:=hid (HIO6.out.touch hT (by simp; omega))
 have hcell1:=R17.cell
 have hcell2:=R27.cell
 have hfroz1:=R17.frozen
 have hfroz2:=R27.frozen
 have hlt1:=R17.lt
 have hlt2:=R27.lt
 have HT:=hid ht
 have HT':=hid ht'
 clear hc7 hT HC6 HW6 R16 R26 HRO6 HIO6 ht ht'
 go_wp2_with fail
 ((try simp only [Exit.inBlock,Exit.then]); apply bodyPost_ret0; focus ((try simp only [results,Tryz.results10]); (try go_simp); (try rfl)))
 refine ⟨L,Ap,cp,ls,A',c',s,a,s',a',q,⟨HLP.out,hl,HT.out,HT'.out,q0,q1⟩,rfl,?_,?_,?_,?_⟩
 ·refine own_weak (base:=w3.heap.size) ?_ (by omega)
  have h:=HRO7.out
  exact ownBy
 ·intro i g hg
  have hr:=HIO7.out i g hg
  refine ⟨own_weak (base:=w3.heap.size) (own_touch' (L:=[w.heap.size,w.heap.size + 1]) (w:=w7) ?_ hr.1 fun b hb=>?_) (by omega),hr.2⟩
  ·exact tchBy
  ·have h1:=own_in hr.1 b hb
   simp
   omega
 ·refine own_weak (base:=w2.heap.size) ?_ (by omega)
  have h:=HPO7.out
  exact ownBy
 ·have h:=HW7.out
  exact belBy
open Go.RowKit
structure Gt where
 k:Int
 a:Int
 b:Int
def flatG:List Gt→List Int
 | []=>[]
 | g :: r=>g.k :: g.a :: g.b :: flatG r
theorem flatG_length:∀ L,(flatG L).length=L.length * 3
 | []=>rfl
 | s :: r=>by simp only [flatG,List.length_cons,flatG_length r]; omega
theorem flatG_append:∀ A B,flatG (A ++ B)=flatG A ++ flatG B
 | [],B=>rfl
 | s :: r,B=>by simp only [flatG,List.cons_append,flatG_append r B]
def threeG (g:Gt):List Int:=[g.k,g.a,g.b]
theorem flatG_snoc (L:List Gt) (g:Gt):flatG (L ++ [g])=flatG L ++ threeG g:=flatG_append L [g]
theorem flatG_at:∀ {L:List Gt} {k:Nat} {s:Gt},L[k]? = some s→∀ (j:Nat) (x:Int),(threeG s)[j]? = some x→(flatG L)[k * 3 + j]? = some x
 | t :: r,0,s,h,j,x,hx=>by
  injection h with h
  subst h
  have hj:j < 3:=(List.getElem?_eq_some_iff.1 hx).1
  rw [show 0 * 3 + j=j by omega]
  match j,hj with
  | 0,_=>exact hx
  | 1,_=>exact hx
  | 2,_=>exact hx
 | t :: r,k + 1,s,h,j,x,hx=>by
  have ih:=flatG_at (L:=r) (k:=k) (by simpa using h) j x hx
  rw [show (k + 1) * 3 + j=(k * 3 + j) + 3 by omega]
  exact ih
def gateB (g:Gt) (n:Int):Bool :=
 if g.k=1 then inB g.a 0 79 && g.b == 0
 else if g.k=2 then inB g.a 0 1 && g.b == 0
 else if g.k=3∨g.k=4 then inB g.a 0 (n - 1) && inB g.b 0 (n - 1)
 else if g.k=5 then inB g.a 0 (n - 1) && g.b == 0
 else false
def gatesB:Nat→List Gt→Bool
 | _,[]=>true
 | n,g :: r=>gateB g n && gatesB (n + 1) r
def outsB (n:Nat) (os:List Int):Bool:=os.all fun w=>inB w 0 ((n:Int) - 1)
def circB (gs:List Gt) (os:List Int):Bool:=decide (gs.length≤6000) && (gatesB 0 gs && outsB gs.length os)
theorem gatesB_append:∀ (A B:List Gt) (n:Nat),gatesB n (A ++ B)=(gatesB n A && gatesB (n + A.length) B)
 | [],B,n=>by simp [gatesB]
 | g :: A,B,n=>by
  simp only [List.cons_append,gatesB,gatesB_append A B (n + 1),List.length_cons,Bool.and_assoc]
  rw [show n + 1 + A.length=n + (A.length + 1) by omega]
theorem gatesB_snoc {A:List Gt} {g:Gt} (h:gatesB 0 A=true) (hg:gateB g A.length=true):gatesB 0 (A ++ [g])=true:=by
 rw [gatesB_append,h]
 simp [gatesB,hg]
theorem gatesB_at:∀ {L:List Gt} {n k:Nat} {g:Gt},gatesB n L=true→L[k]? = some g→gateB g ((n + k:Nat):Int)=true
 | t :: r,n,0,g,h,hk=>by
  injection hk with hk
  subst hk
  simp only [gatesB,Bool.and_eq_true] at h
  exact h.1
 | t :: r,n,k + 1,g,h,hk=>by
  simp only [gatesB,Bool.and_eq_true] at h
  have ih:=gatesB_at h.2 (by simpa using hk)
  rw [show n + 1 + k=n + (k + 1) by omega] at ih
  exact ih
def wireB (n:Nat) (w:Int):Bool:=inB w 0 ((n:Int) - 1)
def wordB4 (n:Nat) (ws:List Int):Bool:=decide (ws.length=4) && ws.all (wireB n)
theorem wireB_iff {n:Nat} {w:Int}:wireB n w=true↔0≤w∧w < n:=by unfold wireB; rw [inB_iff]; omega
theorem wireB_mono {n m:Nat} {w:Int} (h:wireB n w=true) (hm:n≤m):wireB m w=true:=wireB_iff.2 (by have:=wireB_iff.1 h; omega)
theorem word4 {n:Nat} {ws:List Int} (h:wordB4 n ws=true):∃ a b c d:Int,ws=[a,b,c,d]∧wireB n a=true∧wireB n b=true∧wireB n c=true∧wireB n d=true:=by
 unfold wordB4 at h
 rw [Bool.and_eq_true,decide_eq_true_eq] at h
 obtain ⟨hl,ha⟩:=h
 match ws,hl with
 | [a,b,c,d],_ =>
  simp only [List.all_cons,List.all_nil,Bool.and_eq_true,Bool.and_true] at ha
  exact ⟨a,b,c,d,rfl,ha.1,ha.2.1,ha.2.2.1,ha.2.2.2⟩
theorem word4_mk {n:Nat} {a b c d:Int} (ha:wireB n a=true) (hb:wireB n b=true) (hc:wireB n c=true) (hd:wireB n d=true):wordB4 n [a,b,c,d]=true:=by
 unfold wordB4
 simp [ha,hb,hc,hd]
theorem wordB4_mono {n m:Nat} {ws:List Int} (h:wordB4 n ws=true) (hm:n≤m):wordB4 m ws=true:=by
 obtain ⟨a,b,c,d,rfl,h1,h2,h3,h4⟩:=word4 h
 exact word4_mk (wireB_mono h1 hm) (wireB_mono h2 hm) (wireB_mono h3 hm) (wireB_mono h4 hm)
def upW (n:Nat):Nat→List Int
 | 0=>[]
 | k + 1=>upW n k ++ [((n + k:Nat):Int)]
theorem upW_length (n:Nat):∀ k,(upW n k).length=k
 | 0=>rfl
 | k + 1=>by simp [upW,upW_length n k]
def fullG (gs:List Gt) (a b c:Int):List Gt :=
 gs ++ [⟨3,a,c⟩,⟨3,b,c⟩,⟨3,a,((gs.length + 1:Nat):Int)⟩,⟨4,((gs.length:Nat):Int),((gs.length + 1:Nat):Int)⟩,⟨3,((gs.length + 3:Nat):Int),c⟩]
theorem fullG_length (gs:List Gt) (a b c:Int):(fullG gs a b c).length=gs.length + 5:=by simp [fullG]
def sumTo (gs:List Gt) (ws bs:List Int) (first:Int):Nat→List Gt
 | 0=>gs ++ [⟨2,first,0⟩]
 | i + 1=>fullG (sumTo gs ws bs first i) (ws.getD i 0) (bs.getD i 0) ((gs.length + 5 * i:Nat):Int)
theorem sumTo_length (gs:List Gt) (ws bs:List Int) (first:Int):∀ i,(sumTo gs ws bs first i).length=gs.length + 5 * i + 1
 | 0=>by simp [sumTo]
 | i + 1=>by rw [sumTo,fullG_length,sumTo_length gs ws bs first i]; omega
def sumG (gs:List Gt) (ws bs:List Int) (first:Int) (m:Nat):List Gt :=
 sumTo gs ws bs first m ++ [⟨3,ws.getD m 0,bs.getD m 0⟩,⟨3,((gs.length + 5 * m + 1:Nat):Int),((gs.length + 5 * m:Nat):Int)⟩]
theorem sumG_length (gs:List Gt) (ws bs:List Int) (first:Int) (m:Nat):(sumG gs ws bs first m).length=gs.length + 5 * m + 3:=by simp [sumG,sumTo_length]
def sumWs (n:Nat):Nat→List Int
 | 0=>[]
 | i + 1=>sumWs n i ++ [((n + 5 * i + 3:Nat):Int)]
theorem sumWs_length (n:Nat):∀ i,(sumWs n i).length=i
 | 0=>rfl
 | i + 1=>by simp [sumWs,sumWs_length n i]
def sumW (n m:Nat):List Int:=sumWs n m ++ [((n + 5 * m + 2:Nat):Int)]
def notsG (gs:List Gt) (bs:List Int):List Gt:=gs ++ bs.map fun b=>⟨5,b,0⟩
theorem notsG_length (gs:List Gt) (bs:List Int):(notsG gs bs).length=gs.length + bs.length:=by simp [notsG]
def constTo (gs:List Gt) (n:Int):Nat→List Gt
 | 0=>gs
 | i + 1=>constTo gs n i ++ [⟨2,n / (2 ^ i:Nat) % 2,0⟩]
theorem constTo_length (gs:List Gt) (n:Int):∀ i,(constTo gs n i).length=gs.length + i
 | 0=>rfl
 | i + 1=>by rw [constTo,List.length_append,constTo_length gs n i]; simp; omega
def lessG (gs:List Gt) (ws bs:List Int):List Gt:=sumTo (notsG gs bs) ws (upW gs.length 4) 1 4 ++ [⟨5,((gs.length + bs.length + 20:Nat):Int),0⟩]
def eqTo (gs:List Gt) (ws bs:List Int):Nat→List Gt
 | 0=>gs
 | i + 1=>eqTo gs ws bs i ++ [⟨3,ws.getD i 0,bs.getD i 0⟩,⟨5,((gs.length + 2 * i:Nat):Int),0⟩]
theorem eqTo_length (gs:List Gt) (ws bs:List Int):∀ i,(eqTo gs ws bs i).length=gs.length + 2 * i
 | 0=>by simp [eqTo]
 | i + 1=>by rw [eqTo,List.length_append,eqTo_length gs ws bs i]; simp; omega
def eqG (gs:List Gt) (ws bs:List Int):List Gt :=
 eqTo gs ws bs 4 ++ [⟨4,((gs.length + 1:Nat):Int),((gs.length + 3:Nat):Int)⟩,⟨4,((gs.length + 8:Nat):Int),((gs.length + 5:Nat):Int)⟩,⟨4,((gs.length + 9:Nat):Int),((gs.length + 7:Nat):Int)⟩]
def muxTo (gs:List Gt) (s:Int) (ws bs:List Int):Nat→List Gt
 | 0=>gs
 | i + 1=>muxTo gs s ws bs i ++ [⟨3,ws.getD i 0,bs.getD i 0⟩,⟨4,s,((gs.length + 3 * i:Nat):Int)⟩,⟨3,((gs.length + 3 * i + 1:Nat):Int),bs.getD i 0⟩]
theorem muxTo_length (gs:List Gt) (s:Int) (ws bs:List Int):∀ i,(muxTo gs s ws bs i).length=gs.length + 3 * i
 | 0=>by simp [muxTo]
 | i + 1=>by rw [muxTo,List.length_append,muxTo_length gs s ws bs i]; simp; omega
def muxW (n:Nat):Nat→List Int
 | 0=>[]
 | i + 1=>muxW n i ++ [((n + 3 * i + 2:Nat):Int)]
def andsTo (gs:List Gt) (x:Int) (ws:List Int):Nat→List Gt
 | 0=>gs
 | k + 1=>andsTo gs x ws k ++ [⟨4,x,ws.getD k 0⟩]
theorem andsTo_length (gs:List Gt) (x:Int) (ws:List Int):∀ k,(andsTo gs x ws k).length=gs.length + k
 | 0=>rfl
 | k + 1=>by rw [andsTo,List.length_append,andsTo_length gs x ws k]; simp; omega
def mulTo (gs:List Gt) (ws bs:List Int):Nat→List Gt × List Int
 | 0=>(andsTo gs (bs.getD 0 0) ws 4,upW gs.length 4)
 | i + 1 =>
  let p:=mulTo gs ws bs i
  let g:=andsTo p.1 (bs.getD (i + 1) 0) ws (3 - i)
  (sumG g (p.2.drop (i + 1)) (upW p.1.length (3 - i)) 0 (2 - i),p.2.take (i + 1) ++ sumW g.length (2 - i))
def bitTo (gs:List Gt) (k:Int) (ws bs:List Int):Nat→List Gt
 | 0=>gs
 | i + 1=>bitTo gs k ws bs i ++ [⟨k,ws.getD i 0,bs.getD i 0⟩]
theorem bitTo_length (gs:List Gt) (k:Int) (ws bs:List Int):∀ i,(bitTo gs k ws bs i).length=gs.length + i
 | 0=>rfl
 | i + 1=>by rw [bitTo,List.length_append,bitTo_length gs k ws bs i]; simp; omega
def inTo (gs:List Gt) (p n:Int):Nat→List Gt
 | 0=>gs
 | i + 1=>inTo gs p n i ++ [⟨1,(p * 4 + n) * 4 + i,0⟩]
theorem inTo_length (gs:List Gt) (p n:Int):∀ i,(inTo gs p n i).length=gs.length + i
 | 0=>rfl
 | i + 1=>by rw [inTo,List.length_append,inTo_length gs p n i]; simp; omega
theorem gate3 {k a b:Int} {n:Nat} (hk:k=3∨k=4) (ha:wireB n a=true) (hb:wireB n b=true):gateB ⟨k,a,b⟩ n=true:=by
 have h1:=wireB_iff.1 ha
 have h2:=wireB_iff.1 hb
 unfold gateB
 dsimp only
 rw [if_neg (by omega),if_neg (by omega),if_pos hk]
 rw [inB_iff.2 ⟨by omega,by omega⟩,inB_iff.2 ⟨by omega,by omega⟩]
 rfl
theorem gate5 {a:Int} {n:Nat} (ha:wireB n a=true):gateB ⟨5,a,0⟩ n=true:=by
 have h1:=wireB_iff.1 ha
 unfold gateB
 dsimp only
 rw [if_neg (by decide),if_neg (by decide),if_neg (by decide),if_pos rfl,inB_iff.2 ⟨by omega,by omega⟩]
 rfl
theorem gate2 {a:Int} {n:Nat} (ha:a=0∨a=1):gateB ⟨2,a,0⟩ n=true:=by
 unfold gateB
 dsimp only
 rw [if_neg (by decide),if_pos rfl,inB_iff.2 (by omega)]
 rfl
theorem wire_at {n i:Nat} (h:i < n):wireB n ((i:Nat):Int)=true:=wireB_iff.2 (by omega)
theorem full_ok {gs:List Gt} {a b c:Int} (h:gatesB 0 gs=true) (ha:wireB gs.length a=true) (hb:wireB gs.length b=true) (hc:wireB gs.length c=true):gatesB 0 (fullG gs a b c)=true:=by
 unfold fullG
 rw [gatesB_append,h]
 simp only [gatesB,Bool.true_and,Bool.and_true,Bool.and_eq_true,Nat.zero_add]
 exact ⟨gate3 (.inl rfl) ha hc,gate3 (.inl rfl) (wireB_mono hb (by omega)) (wireB_mono hc (by omega)),gate3 (.inl rfl) (wireB_mono ha (by omega)) (wire_at (by omega)),gate3 (.inr rfl) (wire_at (by omega)) (wire_at (by omega)),gate3 (.inl rfl) (wire_at (by omega)) (wireB_mono hc (by omega))⟩
theorem sumTo_ok {gs:List Gt} {ws bs:List Int} {first:Int} (h:gatesB 0 gs=true) (hf:first=0∨first=1):∀ i,(∀ j,j < i→wireB gs.length (ws.getD j 0)=true∧wireB gs.length (bs.getD j 0)=true)→gatesB 0 (sumTo gs ws bs first i)=true
 | 0,_=>gatesB_snoc h (gate2 hf)
 | i + 1,hw=>by
  have hl:=sumTo_length gs ws bs first i
  obtain ⟨h1,h2⟩:=hw i (by omega)
  exact full_ok (sumTo_ok h hf i fun j hj=>hw j (by omega)) (wireB_mono h1 (by omega)) (wireB_mono h2 (by omega)) (wire_at (by omega))
theorem sumG_ok {gs:List Gt} {ws bs:List Int} {first:Int} {m:Nat} (h:gatesB 0 gs=true) (hf:first=0∨first=1) (hw:∀ j,j≤m→wireB gs.length (ws.getD j 0)=true∧wireB gs.length (bs.getD j 0)=true):gatesB 0 (sumG gs ws bs first m)=true:=by
 have hl:=sumTo_length gs ws bs first m
 unfold sumG
 rw [gatesB_append,sumTo_ok h hf m fun j hj=>hw j (by omega)]
 obtain ⟨h1,h2⟩:=hw m (Nat.le_refl _)
 simp only [gatesB,Bool.true_and,Bool.and_true,Bool.and_eq_true,Nat.zero_add]
 exact ⟨gate3 (.inl rfl) (wireB_mono h1 (by omega)) (wireB_mono h2 (by omega)),gate3 (.inl rfl) (wire_at (by omega)) (wire_at (by omega))⟩
theorem nots_ok {gs:List Gt} (h:gatesB 0 gs=true):∀ {bs:List Int},(∀ b∈bs,wireB gs.length b=true)→gatesB 0 (notsG gs bs)=true:=fun {bs} hb=>by
 unfold notsG
 rw [gatesB_append,h,Bool.true_and]
 have:∀ (n:Nat) (l:List Int),gs.length≤n→(∀ b∈l,wireB gs.length b=true)→gatesB n (l.map fun b=>(⟨5,b,0⟩:Gt))=true:=fun n l=>by
  induction l generalizing n with
  | nil=>intro _ _; rfl
  | cons b l ih =>
   intro hn hl
   simp only [List.map_cons,gatesB,Bool.and_eq_true]
   exact ⟨gate5 (wireB_mono (hl b (by simp)) hn),ih (n + 1) (by omega) fun c hc=>hl c (by simp [hc])⟩
 exact this _ bs (by omega) hb
open Go.RowKit
def regL (rs:List (List Int)) (k:Int):List Int:=rs.getD k.toNat []
def wordP (gs:List Gt) (rs:List (List Int)) (z:Int) (s:St):List Gt × List Int :=
 if s.o=1 then (constTo gs s.n 4,upW gs.length 4)
 else if s.o=2 then (inTo gs s.a s.n 4,upW gs.length 4)
 else if s.o=3 then (sumG gs (regL rs s.a) (regL rs s.b) 0 3,sumW gs.length 3)
 else if s.o=4 then (sumG (notsG gs (regL rs s.b)) (regL rs s.a) (upW gs.length 4) 1 3,sumW (gs.length + 4) 3)
 else if s.o=5 then mulTo gs (regL rs s.a) (regL rs s.b) 3
 else if s.o=6 then (bitTo gs 4 (regL rs s.a) (regL rs s.b) 4,upW gs.length 4)
 else if s.o=7 then (bitTo gs 3 (regL rs s.a) (regL rs s.b) 4,upW gs.length 4)
 else if s.o=8 then (lessG gs (regL rs s.a) (regL rs s.b),[((gs.length + 25:Nat):Int),z,z,z])
 else if s.o=9 then (eqG gs (regL rs s.a) (regL rs s.b),[((gs.length + 10:Nat):Int),z,z,z])
 else (muxTo gs ((regL rs s.a).getD 0 0) (regL rs s.b) (regL rs s.c) 4,muxW gs.length 4)
structure Cs where
 g:List Gt
 r:List (List Int)
 o:List Int
def stepC (c:Cs) (s:St):Cs :=
 if s.o=11 then ⟨c.g,c.r,c.o ++ regL c.r s.a⟩
 else ⟨(wordP c.g c.r 0 s).1,c.r.set s.d.toNat (wordP c.g c.r 0 s).2,c.o⟩
def cs0:Cs:=⟨constTo [] 0 4,[upW 0 4,upW 0 4,upW 0 4,upW 0 4,upW 0 4,upW 0 4,upW 0 4,upW 0 4],[]⟩
def compC (L:List St):Cs:=L.foldl stepC cs0
theorem compC_snoc (L:List St) (s:St):compC (L ++ [s])=stepC (compC L) s:=by simp [compC]
theorem word_at {n:Nat} {ws:List Int} (h:wordB4 n ws=true) {j:Nat} (hj:j < 4):wireB n (ws.getD j 0)=true:=by
 obtain ⟨a,b,c,d,rfl,h1,h2,h3,h4⟩:=word4 h
 obtain rfl | rfl | rfl | rfl:j=0∨j=1∨j=2∨j=3:=by omega
 all_goals first | exact h1 | exact h2 | exact h3 | exact h4
theorem word_len {n:Nat} {ws:List Int} (h:wordB4 n ws=true):ws.length=4:=by
 obtain ⟨a,b,c,d,rfl,_⟩:=word4 h
 rfl
theorem word_mem {n:Nat} {ws:List Int} (h:wordB4 n ws=true):∀ x∈ws,wireB n x=true:=by
 unfold wordB4 at h
 rw [Bool.and_eq_true] at h
 exact fun x hx=>List.all_eq_true.1 h.2 x hx
theorem upW4 (n:Nat):upW n 4=[((n:Nat):Int),((n + 1:Nat):Int),((n + 2:Nat):Int),((n + 3:Nat):Int)]:=rfl
theorem upW_word {n m:Nat} (h:n + 4≤m):wordB4 m (upW n 4)=true:=by
 rw [upW4]
 exact word4_mk (wire_at (by omega)) (wire_at (by omega)) (wire_at (by omega)) (wire_at (by omega))
theorem sumW3 (n:Nat):sumW n 3=[((n + 3:Nat):Int),((n + 8:Nat):Int),((n + 13:Nat):Int),((n + 17:Nat):Int)]:=rfl
theorem sumW_word {n m:Nat} (h:n + 18≤m):wordB4 m (sumW n 3)=true:=by
 rw [sumW3]
 exact word4_mk (wire_at (by omega)) (wire_at (by omega)) (wire_at (by omega)) (wire_at (by omega))
theorem muxW_word {n m:Nat} (h:n + 12≤m):wordB4 m (muxW n 4)=true:=by
 show wordB4 m [((n + 2:Nat):Int),((n + 5:Nat):Int),((n + 8:Nat):Int),((n + 11:Nat):Int)]=true
 exact word4_mk (wire_at (by omega)) (wire_at (by omega)) (wire_at (by omega)) (wire_at (by omega))
theorem constTo_ok {gs:List Gt} (n:Int) (h:gatesB 0 gs=true):∀ i,gatesB 0 (constTo gs n i)=true
 | 0=>h
 | i + 1=>gatesB_snoc (constTo_ok n h i) (gate2 (by omega))
theorem gate1 {a:Int} {n:Nat} (ha:0≤a∧a≤79):gateB ⟨1,a,0⟩ n=true:=by
 unfold gateB
 dsimp only
 rw [if_pos rfl,inB_iff.2 (by omega)]
 rfl
theorem inTo_ok {gs:List Gt} {p n:Int} (h:gatesB 0 gs=true) (hp:0≤p∧p≤4) (hn:0≤n∧n≤3):∀ i,i≤4→gatesB 0 (inTo gs p n i)=true
 | 0,_=>h
 | i + 1,hi=>gatesB_snoc (inTo_ok h hp hn i (by omega)) (gate1 (by omega))
theorem andsTo_ok {gs:List Gt} {x:Int} {ws:List Int} (h:gatesB 0 gs=true) (hx:wireB gs.length x=true):∀ k,(∀ j,j < k→wireB gs.length (ws.getD j 0)=true)→gatesB 0 (andsTo gs x ws k)=true
 | 0,_=>h
 | k + 1,hw=>by
  have hl:=andsTo_length gs x ws k
  exact gatesB_snoc (andsTo_ok h hx k fun j hj=>hw j (by omega)) (gate3 (.inr rfl) (wireB_mono hx (by omega)) (wireB_mono (hw k (by omega)) (by omega)))
theorem bitTo_ok {gs:List Gt} {q:Int} {ws bs:List Int} (hq:q=3∨q=4) (h:gatesB 0 gs=true):∀ k,(∀ j,j < k→wireB gs.length (ws.getD j 0)=true∧wireB gs.length (bs.getD j 0)=true)→gatesB 0 (bitTo gs q ws bs k)=true
 | 0,_=>h
 | k + 1,hw=>by
  have hl:=bitTo_length gs q ws bs k
  have h1:=hw k (by omega)
  exact gatesB_snoc (bitTo_ok hq h k fun j hj=>hw j (by omega)) (gate3 hq (wireB_mono h1.1 (by omega)) (wireB_mono h1.2 (by omega)))
theorem eqTo_ok {gs:List Gt} {ws bs:List Int} (h:gatesB 0 gs=true):∀ k,(∀ j,j < k→wireB gs.length (ws.getD j 0)=true∧wireB gs.length (bs.getD j 0)=true)→gatesB 0 (eqTo gs ws bs k)=true
 | 0,_=>h
 | k + 1,hw=>by
  have hl:=eqTo_length gs ws bs k
  have h1:=hw k (by omega)
  unfold eqTo
  rw [gatesB_append,eqTo_ok h k fun j hj=>hw j (by omega)]
  simp only [gatesB,Bool.true_and,Bool.and_true,Bool.and_eq_true,Nat.zero_add]
  exact ⟨gate3 (.inl rfl) (wireB_mono h1.1 (by omega)) (wireB_mono h1.2 (by omega)),gate5 (wire_at (by omega))⟩
theorem eqG_length (gs:List Gt) (ws bs:List Int):(eqG gs ws bs).length=gs.length + 11:=by simp [eqG,eqTo_length]
theorem eqG_ok {gs:List Gt} {ws bs:List Int} (h:gatesB 0 gs=true) (hw:∀ j,j < 4→wireB gs.length (ws.getD j 0)=true∧wireB gs.length (bs.getD j 0)=true):gatesB 0 (eqG gs ws bs)=true:=by
 have hl:=eqTo_length gs ws bs 4
 unfold eqG
 rw [gatesB_append,eqTo_ok h 4 hw]
 simp only [gatesB,Bool.true_and,Bool.and_true,Bool.and_eq_true,Nat.zero_add]
 exact ⟨gate3 (.inr rfl) (wire_at (by omega)) (wire_at (by omega)),gate3 (.inr rfl) (wire_at (by omega)) (wire_at (by omega)),gate3 (.inr rfl) (wire_at (by omega)) (wire_at (by omega))⟩
theorem muxTo_ok {gs:List Gt} {s:Int} {ws bs:List Int} (h:gatesB 0 gs=true) (hs:wireB gs.length s=true):∀ k,(∀ j,j < k→wireB gs.length (ws.getD j 0)=true∧wireB gs.length (bs.getD j 0)=true)→gatesB 0 (muxTo gs s ws bs k)=true
 | 0,_=>h
 | k + 1,hw=>by
  have hl:=muxTo_length gs s ws bs k
  have h1:=hw k (by omega)
  unfold muxTo
  rw [gatesB_append,muxTo_ok h hs k fun j hj=>hw j (by omega)]
  simp only [gatesB,Bool.true_and,Bool.and_true,Bool.and_eq_true,Nat.zero_add]
  exact ⟨gate3 (.inl rfl) (wireB_mono h1.1 (by omega)) (wireB_mono h1.2 (by omega)),gate3 (.inr rfl) (wireB_mono hs (by omega)) (wire_at (by omega)),gate3 (.inl rfl) (wire_at (by omega)) (wireB_mono h1.2 (by omega))⟩
theorem upW_wire {n k m j:Nat} (hj:j < k) (h:n + k≤m):wireB m ((upW n k).getD j 0)=true:=by
 induction k with
 | zero=>omega
 | succ k ih =>
  rw [upW,List.getD_eq_getElem?_getD]
  by_cases hk:j=k
  ·subst hk
   rw [List.getElem?_append_right (by rw [upW_length]; omega),upW_length,Nat.sub_self]
   exact wire_at (by omega)
  ·rw [List.getElem?_append_left (by rw [upW_length]; omega),←List.getD_eq_getElem?_getD]
   exact ih (by omega) (by omega)
theorem lessG_ok {gs:List Gt} {ws bs:List Int} (h:gatesB 0 gs=true) (hw:wordB4 gs.length ws=true) (hb:wordB4 gs.length bs=true):gatesB 0 (lessG gs ws bs)=true:=by
 have hl:=notsG_length gs bs
 have hb4:=word_len hb
 have hs:=sumTo_length (notsG gs bs) ws (upW gs.length 4) 1 4
 refine gatesB_snoc (sumTo_ok (nots_ok h (word_mem hb)) (.inr rfl) 4 fun j hj=>⟨wireB_mono (word_at hw hj) (by omega),?_⟩) (gate5 (wire_at (by omega)))
 exact upW_wire hj (by omega)
theorem drop_getD (l:List Int) (k j:Nat):(l.drop k).getD j 0=l.getD (k + j) 0:=by
 rw [List.getD_eq_getElem?_getD,List.getElem?_drop,←List.getD_eq_getElem?_getD]
theorem lessG_len (gs:List Gt) (ws bs:List Int):(lessG gs ws bs).length=gs.length + bs.length + 22:=by simp [lessG,sumTo_length,notsG_length]
theorem mulTo_ok {gs:List Gt} {ws bs:List Int} (h:gatesB 0 gs=true) (hw:wordB4 gs.length ws=true) (hb:wordB4 gs.length bs=true) :
  ∀ i,i≤3→gatesB 0 (mulTo gs ws bs i).1=true∧wordB4 (mulTo gs ws bs i).1.length (mulTo gs ws bs i).2=true∧gs.length≤(mulTo gs ws bs i).1.length
 | 0,_=>by
  have hl:=andsTo_length gs (bs.getD 0 0) ws 4
  exact ⟨andsTo_ok h (word_at hb (by omega)) 4 fun j hj=>word_at hw hj,upW_word (by show _≤(andsTo gs (bs.getD 0 0) ws 4).length; omega),by show _≤(andsTo gs (bs.getD 0 0) ws 4).length; omega⟩
 | i + 1,hi=>by
  obtain ⟨h1,h2,h3⟩:=mulTo_ok h hw hb i (by omega)
  simp only [mulTo]
  generalize (mulTo gs ws bs i).1=gs0 at h1 h2 h3 ⊢
  generalize (mulTo gs ws bs i).2=ws0 at h2 ⊢
  have hl:=andsTo_length gs0 (bs.getD (i + 1) 0) ws (3 - i)
  have hs:=sumG_length (andsTo gs0 (bs.getD (i + 1) 0) ws (3 - i)) (ws0.drop (i + 1)) (upW gs0.length (3 - i)) 0 (2 - i)
  obtain ⟨a,b,c,d,rfl,g1,g2,g3,g4⟩:=word4 h2
  refine ⟨sumG_ok (andsTo_ok h1 (wireB_mono (word_at hb (by omega)) h3) _ fun j hj=>wireB_mono (word_at hw (by omega)) h3) (.inl rfl) fun j hj=>⟨?_,?_⟩,?_,by omega⟩
  ·rw [drop_getD]
   exact wireB_mono (word_at h2 (by omega)) (by omega)
  ·exact upW_wire (by omega) (by omega)
  ·obtain rfl | rfl | rfl:i=0∨i=1∨i=2:=by omega
   all_goals simp only [sumW,sumWs,List.take,List.cons_append,List.nil_append]
   all_goals refine word4_mk ?_ ?_ ?_ ?_
   all_goals first | exact wireB_mono g1 (by omega) | exact wireB_mono g2 (by omega) | exact wireB_mono g3 (by omega) | exact wireB_mono g4 (by omega) | exact wire_at (by omega)
theorem mulTo_len3 (gs:List Gt) (ws bs:List Int):(mulTo gs ws bs 3).1.length=gs.length + 34:=by
 simp [mulTo,sumG_length,andsTo_length]
structure Plain (s:St):Prop where
 op:1≤s.o∧s.o≤10
 d:0≤s.d∧s.d≤7
 a:0≤s.a∧s.a≤7
 b:0≤s.b∧s.b≤7
 c:0≤s.c∧s.c≤7
 n:0≤s.n∧s.n≤15
 inp:s.o=2→s.a≤4∧s.n≤3
theorem stmt_plain {s:St} (h:stmtB s=true) (h11:s.o≠11) (h12:s.o≠12) (h13:s.o≠13):Plain s:=by
 have hi:=stmt_in h
 refine ⟨by omega,hi.2.1,hi.2.2.1,hi.2.2.2.1,hi.2.2.2.2.1,hi.2.2.2.2.2,fun h2=>?_⟩
 unfold stmtB at h
 rw [if_neg (by omega),if_pos h2] at h
 simp only [Bool.and_eq_true,inB_iff] at h
 omega
structure OkC (c:Cs) (k:Nat):Prop where
 g:gatesB 0 c.g=true
 lo:4≤c.g.length
 hi:c.g.length≤4 + 34 * k
 r:c.r.length=8
 w:∀ ws∈c.r,wordB4 c.g.length ws=true
 o:outsB c.g.length c.o=true
 oh:c.o.length≤4 * k
theorem OkC.reg {c:Cs} {k:Nat} (h:OkC c k) {x:Int} (hx:0≤x∧x≤7):c.r[x.toNat]? = some (regL c.r x)∧wordB4 c.g.length (regL c.r x)=true:=by
 have hr:=h.r
 have hl:x.toNat < c.r.length:=by omega
 have e:c.r[x.toNat]? = some (regL c.r x):=by
  unfold regL
  rw [List.getD_eq_getElem?_getD,List.getElem?_eq_getElem hl]
  rfl
 exact ⟨e,h.w _ (List.mem_of_getElem? e)⟩
theorem ok0:OkC cs0 0:=⟨rfl,by decide,by decide,rfl,by decide,rfl,by decide⟩
theorem wordP_ok {c:Cs} {k:Nat} (h:OkC c k) {s:St} (hs:Plain s) :
  gatesB 0 (wordP c.g c.r 0 s).1=true∧wordB4 (wordP c.g c.r 0 s).1.length (wordP c.g c.r 0 s).2=true∧c.g.length≤(wordP c.g c.r 0 s).1.length∧(wordP c.g c.r 0 s).1.length≤c.g.length + 34:=by
 obtain ⟨_,ha⟩:=h.reg hs.a
 obtain ⟨_,hb⟩:=h.reg hs.b
 obtain ⟨_,hc⟩:=h.reg hs.c
 have hlo:=h.lo
 have hb4:=word_len hb
 have hg:=h.g
 have hz:∀ m,c.g.length≤m→wireB m (0:Int)=true:=fun m hm=>wireB_iff.2 (by omega)
 unfold wordP
 generalize regL c.r s.a=x at ha ⊢
 generalize regL c.r s.b=y at hb hb4 ⊢
 generalize regL c.r s.c=z at hc ⊢
 have hab:∀ j,j < 4→wireB c.g.length (x.getD j 0)=true∧wireB c.g.length (y.getD j 0)=true:=fun j hj=>⟨word_at ha hj,word_at hb hj⟩
 have hbc:∀ j,j < 4→wireB c.g.length (y.getD j 0)=true∧wireB c.g.length (z.getD j 0)=true:=fun j hj=>⟨word_at hb hj,word_at hc hj⟩
 by_cases h1:s.o=1
 ·rw [if_pos h1]
  have hl:=constTo_length c.g s.n 4
  exact ⟨constTo_ok _ hg 4,upW_word (by show _≤(constTo c.g s.n 4).length; omega),by show _≤(constTo c.g s.n 4).length; omega,by show (constTo c.g s.n 4).length≤_; omega⟩
 rw [if_neg h1]
 by_cases h2:s.o=2
 ·rw [if_pos h2]
  have hl:=inTo_length c.g s.a s.n 4
  have hi:=hs.inp h2
  have h0:=hs.a
  have h3:=hs.n
  exact ⟨inTo_ok hg (by omega) (by omega) 4 (by omega),upW_word (by show _≤(inTo c.g s.a s.n 4).length; omega),by show _≤(inTo c.g s.a s.n 4).length; omega,by show (inTo c.g s.a s.n 4).length≤_; omega⟩
 rw [if_neg h2]
 by_cases h3:s.o=3
 ·rw [if_pos h3]
  dsimp only
  rw [sumG_length]
  exact ⟨sumG_ok hg (.inl rfl) fun j hj=>hab j (by omega),sumW_word (by omega),by omega,by omega⟩
 rw [if_neg h3]
 by_cases h4:s.o=4
 ·rw [if_pos h4]
  have hl:=notsG_length c.g y
  dsimp only
  rw [sumG_length]
  exact ⟨sumG_ok (nots_ok hg (word_mem hb)) (.inr rfl) fun j hj=>⟨wireB_mono (hab j (by omega)).1 (by omega),upW_wire (by omega) (by omega)⟩,sumW_word (by omega),by omega,by omega⟩
 rw [if_neg h4]
 by_cases h5:s.o=5
 ·rw [if_pos h5]
  obtain ⟨q1,q2,q3⟩:=mulTo_ok hg ha hb 3 (Nat.le_refl _)
  exact ⟨q1,q2,q3,by rw [mulTo_len3]; omega⟩
 rw [if_neg h5]
 by_cases h6:s.o=6
 ·rw [if_pos h6]
  dsimp only
  rw [bitTo_length]
  exact ⟨bitTo_ok (.inr rfl) hg 4 hab,upW_word (by omega),by omega,by omega⟩
 rw [if_neg h6]
 by_cases h7:s.o=7
 ·rw [if_pos h7]
  dsimp only
  rw [bitTo_length]
  exact ⟨bitTo_ok (.inl rfl) hg 4 hab,upW_word (by omega),by omega,by omega⟩
 rw [if_neg h7]
 by_cases h8:s.o=8
 ·rw [if_pos h8]
  dsimp only
  rw [lessG_len]
  exact ⟨lessG_ok hg ha hb,word4_mk (wire_at (by omega)) (hz _ (by omega)) (hz _ (by omega)) (hz _ (by omega)),by omega,by omega⟩
 rw [if_neg h8]
 by_cases h9:s.o=9
 ·rw [if_pos h9]
  dsimp only
  rw [eqG_length]
  exact ⟨eqG_ok hg hab,word4_mk (wire_at (by omega)) (hz _ (by omega)) (hz _ (by omega)) (hz _ (by omega)),by omega,by omega⟩
 rw [if_neg h9]
 dsimp only
 rw [muxTo_length]
 exact ⟨muxTo_ok hg (word_at ha (by omega)) 4 hbc,muxW_word (by omega),by omega,by omega⟩
theorem outsB_mono {n m:Nat} {os:List Int} (h:outsB n os=true) (hm:n≤m):outsB m os=true:=by
 unfold outsB at *
 rw [List.all_eq_true] at *
 intro x hx
 exact wireB_mono (h x hx) hm
theorem ok_out {c:Cs} {k:Nat} (h:OkC c k) {s:St} (ha:0≤s.a∧s.a≤7):OkC ⟨c.g,c.r,c.o ++ regL c.r s.a⟩ (k + 1):=by
 obtain ⟨_,hw⟩:=h.reg ha
 have hl:=word_len hw
 have hh:=h.hi
 have ho:=h.oh
 refine ⟨h.g,h.lo,by show c.g.length≤_; omega,h.r,h.w,?_,by show (c.o ++ _).length≤_; rw [List.length_append]; omega⟩
 have h1:=h.o
 have h2:=word_mem hw
 show outsB c.g.length (c.o ++ _)=true
 unfold outsB at *
 rw [List.all_append,h1,Bool.true_and]
 exact List.all_eq_true.2 (fun x hx=>h2 x hx)
theorem ok_word {c:Cs} {k:Nat} (h:OkC c k) {s:St} (hs:Plain s):OkC ⟨(wordP c.g c.r 0 s).1,c.r.set s.d.toNat (wordP c.g c.r 0 s).2,c.o⟩ (k + 1):=by
 obtain ⟨h1,h2,h3,h4⟩:=wordP_ok h hs
 have hh:=h.hi
 have hl:=h.lo
 have ho:=h.oh
 refine ⟨h1,by show 4≤(wordP c.g c.r 0 s).1.length; omega,by show (wordP c.g c.r 0 s).1.length≤_; omega,by simp [h.r],fun ws hw=>?_,outsB_mono h.o h3,by show c.o.length≤_; omega⟩
 rcases List.mem_or_eq_of_mem_set hw with hw | rfl
 ·exact wordB4_mono (h.w ws hw) h3
 ·exact h2
theorem ok_step {c:Cs} {k:Nat} (h:OkC c k) {s:St} (hs:stmtB s=true) (h12:s.o≠12) (h13:s.o≠13):OkC (stepC c s) (k + 1):=by
 unfold stepC
 by_cases h11:s.o=11
 ·rw [if_pos h11]
  exact ok_out h (stmt_in hs).2.2.1
 ·rw [if_neg h11]
  exact ok_word h (stmt_plain hs h11 h12 h13)
theorem ok_take {L:List St} (hL:∀ s∈L,stmtB s=true∧s.o≠12∧s.o≠13):∀ k,k≤L.length→OkC (compC (L.take k)) k
 | 0,_=>ok0
 | k + 1,h=>by
  have hk:k < L.length:=by omega
  rw [List.take_succ_eq_append_getElem hk,compC_snoc]
  obtain ⟨h1,h2,h3⟩:=hL L[k] (List.getElem_mem hk)
  exact ok_step (ok_take hL k (by omega)) h1 h2 h3
theorem unrL_ok (L:List St):∀ s∈unrL L,stmtB s=true∧s.o≠12∧s.o≠13:=by
 unfold unrL
 split
 ·next h =>
  unfold unrB at h
  rw [Bool.and_eq_true] at h
  exact unr_in _ (trOf_ok h.1).2.1
 ·intro s hs
  cases hs
theorem unrL_len (L:List St):(unrL L).length≤120:=by
 unfold unrL
 split
 ·next h =>
  unfold unrB at h
  rw [Bool.and_eq_true,decide_eq_true_eq] at h
  rw [unr_length]
  exact h.2
 ·simp
noncomputable def compL (L:List St):Cs:=if unrB L=true then compC (unrL L) else ⟨[],[],[]⟩
theorem comp_ok (L:List St):OkC (compC (unrL L)) (unrL L).length:=by
 have h:=ok_take (unrL_ok L) (unrL L).length (Nat.le_refl _)
 rwa [List.take_length] at h
end Go.Proofs.YtihbaieiempjeaaGreat
