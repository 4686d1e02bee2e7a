/- Lemmas of the proof: DrawR, Cc, Opt, Ands, Gar, GarS, GarL, Rw. -/
import Derived.Test.YtihbaieiempjeaaGreatD0
import Derived.Test.YtihbaieiempjeaaGreatD3
import Derived.Test.YtihbaieiempjeaaGreatD1
import Derived.Deep.DeepCutAuto
namespace Go.Proofs.YtihbaieiempjeaaGreat
open Go.RowKit
theorem infoStmQ:(Tryz.prog.info? 73).map (fun i=>(i.zero,i.size,i.bytes))=some (some (.agg #[.int .i64 0,.int .i64 0,.int .i64 0,.int .i64 0,.int .i64 0,.int .i64 0]),6,48):=by kernel_rfl
theorem stmt_one (x0 x1 x2 x3 x4 x5:Int):∀ u∈[Value.int .i64 x0,.int .i64 x1,.int .i64 x2,.int .i64 x3,.int .i64 x4,.int .i64 x5],u.oneCell'=true:=by
 intro u hu
 simp at hu
 rcases hu with rfl | rfl | rfl | rfl | rfl | rfl <;> rfl
def ProgS (w:World) (p n c:Nat) (A:Option Addr) (k:Nat) (o:Value) (wr:World):Prop :=
 ∃ (L:List St) (A':Option Addr) (c':Nat),(L.length=2 + k∧∀ s∈L,PlainSt s)∧o=.slice A' (2 + k) c'∧wr.ownsRow w.heap.size 73 6 (.slice A' (2 + k) c') (2 + k) (ints (flatS L))∧Cur wr p A n c∧Touch [p] w wr
theorem ints_cat (a b:List Int):ints (a ++ b)=ints a ++ ints b:=by simp [ints]
theorem first2:∀ s∈[(⟨2,0,0,0,0,0⟩:St),⟨2,1,1,0,0,0⟩],PlainSt s:=by
 intro s hs
 simp only [List.mem_cons,List.not_mem_nil,or_false] at hs
 rcases hs with rfl | rfl
 ·exact pl2 (by decide) (by decide) (by decide)
 ·exact pl2 (by decide) (by decide) (by decide)
theorem snoc_is {L:List St} {k:Nat} {s:St} (h:L.length=2 + k∧∀ s∈L,PlainSt s) (hs:PlainSt s):(L ++ [s]).length=2 + (k + 1)∧∀ x∈L ++ [s],PlainSt x:=by
 refine ⟨by rw [List.length_append,h.1]; rfl,fun x hx=>?_⟩
 rw [List.mem_append,List.mem_singleton] at hx
 rcases hx with hx | rfl
 ·exact h.2 x hx
 ·exact hs
set_option maxRecDepth 100000 in
set_option maxHeartbeats 1600000 in
theorem program_is (p:Nat) (A:Option Addr) (c:Nat) (bs:List Int) (w:World) (hc:Cur w p A bs.length c) (hb:Bytes w p A bs) :
  Calls Tryz.prog 37 #[.pointer (some ⟨p,0,none⟩)] w fun e w'=>∃ (L:List St) (A':Option Addr) (c':Nat),(L.length≤7∧∀ s∈L,PlainSt s)∧e=.returned (.slice A' L.length c')∧w'.ownsRow w.heap.size 73 6 (.slice A' L.length c') L.length (ints (flatS L))∧Cur w' p A bs.length c∧Touch [p] w w':=by
 have HB:=hid hb
 have HC:=hid hc
 have hp:=hc.lt
 clear hb hc
 go_enter Tryz.func37,Tryz.ntmps37
 go_wp2_with fail
 go_loopw [3,4] (fun o i wr=>∃ k:Nat,k≤4∧i=.int .i64 k∧ProgS w p bs.length c A k o wr) (fun _ i _=>4 - (intOf i).toNat)
 case atStart=>exact ⟨0,Nat.zero_le _,rfl,[⟨2,0,0,0,0,0⟩,⟨2,1,1,0,0,0⟩],some ⟨w.heap.size,0,none⟩,2,⟨rfl,first2⟩,rfl,own_lit (size:=6) #[.int .i64 2,.int .i64 0,.int .i64 0,.int .i64 0,.int .i64 0,.int .i64 0,.int .i64 2,.int .i64 1,.int .i64 1,.int .i64 0,.int .i64 0,.int .i64 0] 2 rfl (Nat.le_refl _) (by decide) rfl,HC.out.alloc _,(Touch.refl _ _).alloc _⟩
 case round =>
  obtain ⟨k,hk,rfl,L,A',c',hLL,rfl,hown,hcu,htw⟩:=hrel
  have HLL:=hid hLL
  clear hLL
  have zw:=htw.size
  have HO:=hid hown
  have HU:=hid hcu
  have HD:=hid htw
  clear hown hcu htw
  go_wp2_with fail
  refine (below_any 4 _ _ _ _ _ (by omega) (by omega) HU.out (HB.out.touch HD.out (by omega))).mono ?_
  rintro e w2 ⟨r,rfl,hr0,hr1,hc2,hT⟩
  have z2:=hT.size
  have HO2:=hid (own_touch' hT HO.out (fun q hq=>by have h1:=own_in HO.out q hq; simp; omega))
  have HU2:=hid hc2
  have HD2:=hid (HD.out.trans hT)
  clear hc2 hT
  by_cases hlt:(k:Int) < r
  ·go_wp2_with fail
   refine (stmt_is _ _ _ _ _ HU2.out (HB.out.touch HD2.out (by omega))).mono ?_
   rintro e w3 ⟨st,hst,rfl,hc3,hT⟩
   have HST:=hid hst
   clear hst
   have z3:=hT.size
   have HO3:=hid (own_touch' hT HO2.out (fun q hq=>by have h1:=own_in HO2.out q hq; simp; omega))
   have HU3:=hid hc3
   have HD3:=hid (HD2.out.trans hT)
   clear hc3 hT
   go_wp2_with (at_builtin; go_loud (refine wpList_appi rfl _ _ 24 rfl w.heap.size 73 (.agg #[.int .i64 0,.int .i64 0,.int .i64 0,.int .i64 0,.int .i64 0,.int .i64 0]) 6 48 Tryz.underlying24 infoStmQ rfl (by decide) _ (2 + k) _ rfl (HO3.out.alloc _) ⟨w3.heap.size,0,none⟩ 1 1 _ rfl rfl (many_new _ [.int .i64 st.o,.int .i64 st.d,.int .i64 st.a,.int .i64 st.b,.int .i64 st.c,.int .i64 st.n] _) (stmt_one _ _ _ _ _ _) (by omega) (by decide) (by simp; omega) ?_))
   intro A3 c3 w4 ho4 hg4 li4
   have hg:=grown_alloc hg4
   have z4:=hg.size
   have hlo:∀ q,(Value.slice A' (2 + k) c').ownBlock=some q→w.heap.size≤q:=fun q hq=>(own_in HO3.out q hq).1
   have hc4:=HU3.out.grown hg (fun q hq=>by have h1:=hlo q hq; omega)
   have ht4:=HD3.out.grown hg hlo
   have HO4:=hid ho4
   have HU4:=hid hc4
   have HD4:=hid ht4
   clear hg hg4 li4 hlo ho4 hc4 ht4
   go_wp2
   go_roundw
   case rel=>exact ⟨k + 1,by omega,by go_num,L ++ [st],A3,c3,snoc_is HLL.out HST.out,rfl,by rw [flatS_snoc,ints_cat]; exact HO4.out,HU4.out,HD4.out⟩
   case measure=>simp [intOf]; omega
  ·go_wp2_with fail
   refine (below_any 4 _ _ _ _ _ (by omega) (by omega) HU2.out (HB.out.touch HD2.out (by omega))).mono ?_
   rintro e w3 ⟨x,rfl,hx0,hx1,hc3,hT⟩
   have z3:=hT.size
   have HO3:=hid (own_touch' hT HO2.out (fun q hq=>by have h1:=own_in HO2.out q hq; simp; omega))
   have HU3:=hid hc3
   have HD3:=hid (HD2.out.trans hT)
   clear hc3 hT
   go_wp2_with (at_builtin; go_loud (refine wpList_appi rfl _ _ 24 rfl w.heap.size 73 (.agg #[.int .i64 0,.int .i64 0,.int .i64 0,.int .i64 0,.int .i64 0,.int .i64 0]) 6 48 Tryz.underlying24 infoStmQ rfl (by decide) _ (2 + k) _ rfl (HO3.out.alloc _) ⟨w3.heap.size,0,none⟩ 1 1 _ rfl rfl (many_new _ [.int .i64 11,.int .i64 0,.int .i64 x,.int .i64 0,.int .i64 0,.int .i64 0] _) (stmt_one _ _ _ _ _ _) (by omega) (by decide) (by simp; omega) ?_))
   intro A3 c3 w4 ho4 hg4 li4
   have hg:=grown_alloc hg4
   have z4:=hg.size
   have hlo:∀ q,(Value.slice A' (2 + k) c').ownBlock=some q→w.heap.size≤q:=fun q hq=>(own_in HO3.out q hq).1
   have hc4:=HU3.out.grown hg (fun q hq=>by have h1:=hlo q hq; omega)
   have ht4:=HD3.out.grown hg hlo
   have HO4:=hid ho4
   have HU4:=hid hc4
   have HD4:=hid ht4
   clear hg hg4 li4 hlo ho4 hc4 ht4
   go_wp2
   go_ret
   have hf:=snoc_is HLL.out (pl11 (a:=x) (by omega))
   have hl:(L ++ [(⟨11,0,x,0,0,0⟩:St)]).length=2 + (k + 1):=hf.1
   refine ⟨L ++ [(⟨11,0,x,0,0,0⟩:St)],A3,c3,⟨by omega,hf.2⟩,by rw [hl]; rfl,?_,HU4.out,HD4.out⟩
   rw [hl,flatS_snoc,ints_cat]
   exact HO4.out
set_option maxRecDepth 100000 in
set_option maxHeartbeats 1600000 in
theorem secure_is (A:Option Addr) (c:Nat) (bs:List Int) (w:World) (hb:Bytes w w.heap.size A bs) :
  Calls Tryz.prog 10 #[.slice A bs.length c] w fun e w'=>∃ (L:List St) (Ap:Option Addr) (cp:Nat) (ls:List (Nat × Nat × List Int)) (A':Option Addr) (c':Nat) (s a s' a' q:Int),
   ((L.length≤7∧∀ s∈L,PlainSt s)∧ls.length=5∧(tapeOkB s a=true∧a≤50)∧(tapeOkB s' a'=true∧a'≤50)∧0≤q∧q < 5)∧e=.returned (.tuple #[.slice Ap L.length cp,.slice A' 5 c',.agg #[.int .i64 s,.int .i64 a],.agg #[.int .i64 s',.int .i64 a'],.int .i64 q]) ∧
   w'.ownsRow w.heap.size 30 1 (.slice A' 5 c') 5 (insV ls)∧InsO w' w.heap.size ls∧w'.ownsRow w.heap.size 73 6 (.slice Ap L.length cp) L.length (ints (flatS L))∧Below w.heap.size w w':=by
 have HB:=hid hb
 have bc_s:=hid hb.small
 have bc_l:=hid hb.len
 have HBY:=hb.cells
 clear hb
 go_enter Tryz.func10,Tryz.ntmps10
 have b_0:=(Below.refl w.heap.size w)
 have s_0:=b_0.size
 go_upto_region 1 with fail
 refine wp_forget2 (w0:=w) (B:=w.heap.size) (b0:=w.heap.size) (t0:=27) (c0:=#[.int .i64 0,.int .i64 0]) (b1:=w.heap.size + 1) (t1:=27) (c1:=#[.int .i64 0,.int .i64 0]) ?_ ?_ ?_ ?_
 (focus exact blkcBy)
 (focus exact blkcBy)
 (focus (exact belBy))
 intro w1 r1_1 r2_1 hX1
 have sX1:=hX1.size
 have r1_lt:=r1_1.lt
 have r2_lt:=r2_1.lt
 have b_1:=b_0.trans (hX1.mono (by omega))
 clear b_0 hX1
 have cell_r1:=r1_1.cell
 have froz_r1:=r1_1.frozen
 have lt_r1:=r1_1.lt
 have cell_r2:=r2_1.cell
 have froz_r2:=r2_1.frozen
 have lt_r2:=r2_1.lt
 have HR1:=hid r1_1
 have HR2:=hid r2_1
 have HW:=hid b_1
 clear r1_1 r2_1 b_1 cell_r1 froz_r1 cell_r2 froz_r2 HBY
 go_wp2_with fail
 refine (new_any _ _ _ _ ((HB.out.step HW.out).more (by omega))).mono ?_
 rintro e w2 ⟨rfl,hc2,hb2⟩
 have s2:=hb2.size
 have z2:=hc2.lt
 have HW2:=hid (HW.out.trans (hb2.mono (by omega)))
 have R12:=hid (Blk.past hb2 HR1.out)
 have R22:=hid (Blk.past hb2 HR2.out)
 have HC2:=hid hc2
 obtain ⟨p,hp⟩:∃ p,p=w1.heap.size:=⟨_,rfl⟩
 rw [←hp] at HC2
 rw [←hp] at z2
 rw [←hp]
 have pw:w.heap.size + 1 < p:=by omega
 clear hc2 hb2 HW HR1 HR2 hp
 go_wp2_with fail
 refine (program_is p _ _ _ _ HC2.out ((HB.out.step HW2.out).more (by omega))).mono ?_
 rintro e w3 ⟨L,Ap,cp,hL,rfl,hpo,hc3,hT⟩
 have HLP:=hid hL
 have HPO3:=hid hpo
 clear hL hpo
 have z3:=hT.size
 have HC3:=hid hc3
 have HW3:=hid (hT.below HW2.out (by simp; omega))
 have R13:=hid (Blk.touch hT R12.out (by simp; omega))
 have R23:=hid (Blk.touch hT R22.out (by simp; omega))
 clear hc3 hT HC2 HW2 R12 R22
 go_wp2_with fail
 refine (inputs_any p _ _ _ _ HC3.out ((HB.out.step HW3.out).more (by omega))).mono ?_
 rintro e w4 ⟨ls,A',c',hl,rfl,hro,hio,hc4,hT⟩
 have z4:=hT.size
 have HC4:=hid hc4
 have HW4:=hid (hT.below HW3.out (by simp; omega))
 have HPO4:=hid (own_touch' hT HPO3.out (fun q hq=>by have h1:=own_in HPO3.out q hq; simp; omega))
 clear HPO3
 have R14:=hid (Blk.touch hT R13.out (by simp; omega))
 have R24:=hid (Blk.touch hT R23.out (by simp; omega))
 have HRO4:=hid hro
 have HIO4:=hid hio
 clear hc4 hT HC3 HW3 R13 R23 hro hio
 go_wp2_with fail
 refine (tape_any p _ _ _ _ HC4.out ((HB.out.step HW4.out).more (by omega))).mono ?_
 rintro e w5 ⟨s,a,rfl,ht,hc5,hT⟩
 have z5:=hT.size
 have HC5:=hid hc5
 have HW5:=hid (hT.below HW4.out (by simp; omega))
 have HPO5:=hid (own_touch' hT HPO4.out (fun q hq=>by have h1:=own_in HPO4.out q hq; simp; omega))
 clear HPO4
 have R15:=hid (Blk.touch hT R14.out (by simp; omega))
 have R25:=hid (Blk.touch hT R24.out (by simp; omega))
 have HRO5:=hid (own_touch' hT HRO4.out (fun q hq=>by have h1:=own_in HRO4.out q hq; simp; omega))
 have HIO5:=hid (HIO4.out.touch hT (by simp; omega))
 clear hc5 hT HC4 HW4 R14 R24 HRO4 HIO4
 go_wp2_with fail
 refine (tape_any p _ _ _ _ HC5.out ((HB.out.step HW5.out).more (by omega))).mono ?_
 rintro e w6 ⟨s',a',rfl,ht',hc6,hT⟩
 have z6:=hT.size
 have HC6:=hid hc6
 have HW6:=hid (hT.below HW5.out (by simp; omega))
 have HPO6:=hid (own_touch' hT HPO5.out (fun q hq=>by have h1:=own_in HPO5.out q hq; simp; omega))
 clear HPO5
 have R16:=hid (Blk.touch hT R15.out (by simp; omega))
 have R26:=hid (Blk.touch hT R25.out (by simp; omega))
 have HRO6:=hid (own_touch' hT HRO5.out (fun q hq=>by have h1:=own_in HRO5.out q hq; simp; omega))
 have HIO6:=hid (HIO5.out.touch hT (by simp; omega))
 clear hc6 hT HC5 HW5 R15 R25 HRO5 HIO5
 go_wp2_with fail
 refine (below_any 5 p _ _ _ _ (by omega) (by omega) HC6.out ((HB.out.step HW6.out).more (by omega))).mono ?_
 rintro e w7 ⟨q,rfl,q0,q1,hc7,hT⟩
 have z7:=hT.size
 have HW7:=hid (hT.below HW6.out (by simp; omega))
 have HPO7:=hid (own_touch' hT HPO6.out (fun q hq=>by have h1:=own_in HPO6.out q hq; simp; omega))
 clear HPO6
 have R17:=Blk.touch hT R16.out (by simp; omega)
 have R27:=Blk.touch hT R26.out (by simp; omega)
 have HRO7:=hid (own_touch' hT HRO6.out (fun q hq=>by have h1:=own_in HRO6.out q hq; simp; omega))
 have HIO7:=hid (HIO6.out.touch hT (by simp; omega))
 have hcell1:=R17.cell
 have hcell2:=R27.cell
 have hfroz1:=R17.frozen
 have hfroz2:=R27.frozen
 have hlt1:=R17.lt
 have hlt2:=R27.lt
 have HT:=hid ht
 have HT':=hid ht'
 clear hc7 hT HC6 HW6 R16 R26 HRO6 HIO6 ht ht'
 go_wp2_with fail
 ((try simp only [Exit.inBlock,Exit.then]); apply bodyPost_ret0; focus ((try simp only [results,Tryz.results10]); (try go_simp); (try rfl)))
 refine ⟨L,Ap,cp,ls,A',c',s,a,s',a',q,⟨HLP.out,hl,HT.out,HT'.out,q0,q1⟩,rfl,?_,?_,?_,?_⟩
 ·refine own_weak (base:=w3.heap.size) ?_ (by omega)
  have h:=HRO7.out
  exact ownBy
 ·intro i g hg
  have hr:=HIO7.out i g hg
  refine ⟨own_weak (base:=w3.heap.size) (own_touch' (L:=[w.heap.size,w.heap.size + 1]) (w:=w7) ?_ hr.1 fun b hb=>?_) (by omega),hr.2⟩
  ·exact tchBy
  ·have h1:=own_in hr.1 b hb
   simp
   omega
 ·refine own_weak (base:=w2.heap.size) ?_ (by omega)
  have h:=HPO7.out
  exact ownBy
 ·have h:=HW7.out
  exact belBy
open Go.RowKit
structure Gt where
 k:Int
 a:Int
 b:Int
def flatG:List Gt→List Int
 | []=>[]
 | g :: r=>g.k :: g.a :: g.b :: flatG r
theorem flatG_length:∀ L,(flatG L).length=L.length * 3
 | []=>rfl
 | s :: r=>by simp only [flatG,List.length_cons,flatG_length r]; omega
theorem flatG_append:∀ A B,flatG (A ++ B)=flatG A ++ flatG B
 | [],B=>rfl
 | s :: r,B=>by simp only [flatG,List.cons_append,flatG_append r B]
def threeG (g:Gt):List Int:=[g.k,g.a,g.b]
theorem flatG_snoc (L:List Gt) (g:Gt):flatG (L ++ [g])=flatG L ++ threeG g:=flatG_append L [g]
theorem flatG_at:∀ {L:List Gt} {k:Nat} {s:Gt},L[k]? = some s→∀ (j:Nat) (x:Int),(threeG s)[j]? = some x→(flatG L)[k * 3 + j]? = some x
 | t :: r,0,s,h,j,x,hx=>by
  injection h with h
  subst h
  have hj:j < 3:=(List.getElem?_eq_some_iff.1 hx).1
  rw [show 0 * 3 + j=j by omega]
  match j,hj with
  | 0,_=>exact hx
  | 1,_=>exact hx
  | 2,_=>exact hx
 | t :: r,k + 1,s,h,j,x,hx=>by
  have ih:=flatG_at (L:=r) (k:=k) (by simpa using h) j x hx
  rw [show (k + 1) * 3 + j=(k * 3 + j) + 3 by omega]
  exact ih
def gateB (g:Gt) (n:Int):Bool :=
 if g.k=1 then inB g.a 0 79 && g.b == 0
 else if g.k=2 then inB g.a 0 1 && g.b == 0
 else if g.k=3∨g.k=4 then inB g.a 0 (n - 1) && inB g.b 0 (n - 1)
 else if g.k=5 then inB g.a 0 (n - 1) && g.b == 0
 else false
def gatesB:Nat→List Gt→Bool
 | _,[]=>true
 | n,g :: r=>gateB g n && gatesB (n + 1) r
def outsB (n:Nat) (os:List Int):Bool:=os.all fun w=>inB w 0 ((n:Int) - 1)
def circB (gs:List Gt) (os:List Int):Bool:=decide (gs.length≤6000) && (gatesB 0 gs && outsB gs.length os)
theorem gatesB_append:∀ (A B:List Gt) (n:Nat),gatesB n (A ++ B)=(gatesB n A && gatesB (n + A.length) B)
 | [],B,n=>by simp [gatesB]
 | g :: A,B,n=>by
  simp only [List.cons_append,gatesB,gatesB_append A B (n + 1),List.length_cons,Bool.and_assoc]
  rw [show n + 1 + A.length=n + (A.length + 1) by omega]
theorem gatesB_snoc {A:List Gt} {g:Gt} (h:gatesB 0 A=true) (hg:gateB g A.length=true):gatesB 0 (A ++ [g])=true:=by
 rw [gatesB_append,h]
 simp [gatesB,hg]
theorem gatesB_at:∀ {L:List Gt} {n k:Nat} {g:Gt},gatesB n L=true→L[k]? = some g→gateB g ((n + k:Nat):Int)=true
 | t :: r,n,0,g,h,hk=>by
  injection hk with hk
  subst hk
  simp only [gatesB,Bool.and_eq_true] at h
  exact h.1
 | t :: r,n,k + 1,g,h,hk=>by
  simp only [gatesB,Bool.and_eq_true] at h
  have ih:=gatesB_at h.2 (by simpa using hk)
  rw [show n + 1 + k=n + (k + 1) by omega] at ih
  exact ih
def wireB (n:Nat) (w:Int):Bool:=inB w 0 ((n:Int) - 1)
def wordB4 (n:Nat) (ws:List Int):Bool:=decide (ws.length=4) && ws.all (wireB n)
theorem wireB_iff {n:Nat} {w:Int}:wireB n w=true↔0≤w∧w < n:=by unfold wireB; rw [inB_iff]; omega
theorem wireB_mono {n m:Nat} {w:Int} (h:wireB n w=true) (hm:n≤m):wireB m w=true:=wireB_iff.2 (by have:=wireB_iff.1 h; omega)
theorem word4 {n:Nat} {ws:List Int} (h:wordB4 n ws=true):∃ a b c d:Int,ws=[a,b,c,d]∧wireB n a=true∧wireB n b=true∧wireB n c=true∧wireB n d=true:=by
 unfold wordB4 at h
 rw [Bool.and_eq_true,decide_eq_true_eq] at h
 obtain ⟨hl,ha⟩:=h
 match ws,hl with
 | [a,b,c,d],_ =>
  simp only [List.all_cons,List.all_nil,Bool.and_eq_true,Bool.and_true] at ha
  exact ⟨a,b,c,d,rfl,ha.1,ha.2.1,ha.2.2.1,ha.2.2.2⟩
theorem word4_mk {n:Nat} {a b c d:Int} (ha:wireB n a=true) (hb:wireB n b=true) (hc:wireB n c=true) (hd:wireB n d=true):wordB4 n [a,b,c,d]=true:=by
 unfold wordB4
 simp [ha,hb,hc,hd]
theorem wordB4_mono {n m:Nat} {ws:List Int} (h:wordB4 n ws=true) (hm:n≤m):wordB4 m ws=true:=by
 obtain ⟨a,b,c,d,rfl,h1,h2,h3,h4⟩:=word4 h
 exact word4_mk (wireB_mono h1 hm) (wireB_mono h2 hm) (wireB_mono h3 hm) (wireB_mono h4 hm)
def upW (n:Nat):Nat→List Int
 | 0=>[]
 | k + 1=>upW n k ++ [((n + k:Nat):Int)]
theorem upW_length (n:Nat):∀ k,(upW n k).length=k
 | 0=>rfl
 | k + 1=>by simp [upW,upW_length n k]
def fullG (gs:List Gt) (a b c:Int):List Gt :=
 gs ++ [⟨3,a,c⟩,⟨3,b,c⟩,⟨3,a,((gs.length + 1:Nat):Int)⟩,⟨4,((gs.length:Nat):Int),((gs.length + 1:Nat):Int)⟩,⟨3,((gs.length + 3:Nat):Int),c⟩]
theorem fullG_length (gs:List Gt) (a b c:Int):(fullG gs a b c).length=gs.length + 5:=by simp [fullG]
def sumTo (gs:List Gt) (ws bs:List Int) (first:Int):Nat→List Gt
 | 0=>gs ++ [⟨2,first,0⟩]
 | i + 1=>fullG (sumTo gs ws bs first i) (ws.getD i 0) (bs.getD i 0) ((gs.length + 5 * i:Nat):Int)
theorem sumTo_length (gs:List Gt) (ws bs:List Int) (first:Int):∀ i,(sumTo gs ws bs first i).length=gs.length + 5 * i + 1
 | 0=>by simp [sumTo]
 | i + 1=>by rw [sumTo,fullG_length,sumTo_length gs ws bs first i]; omega
def sumG (gs:List Gt) (ws bs:List Int) (first:Int) (m:Nat):List Gt :=
 sumTo gs ws bs first m ++ [⟨3,ws.getD m 0,bs.getD m 0⟩,⟨3,((gs.length + 5 * m + 1:Nat):Int),((gs.length + 5 * m:Nat):Int)⟩]
theorem sumG_length (gs:List Gt) (ws bs:List Int) (first:Int) (m:Nat):(sumG gs ws bs first m).length=gs.length + 5 * m + 3:=by simp [sumG,sumTo_length]
def sumWs (n:Nat):Nat→List Int
 | 0=>[]
 | i + 1=>sumWs n i ++ [((n + 5 * i + 3:Nat):Int)]
def sumW (n m:Nat):List Int:=sumWs n m ++ [((n + 5 * m + 2:Nat):Int)]
def notsG (gs:List Gt) (bs:List Int):List Gt:=gs ++ bs.map fun b=>⟨5,b,0⟩
theorem notsG_length (gs:List Gt) (bs:List Int):(notsG gs bs).length=gs.length + bs.length:=by simp [notsG]
def constTo (gs:List Gt) (n:Int):Nat→List Gt
 | 0=>gs
 | i + 1=>constTo gs n i ++ [⟨2,n / (2 ^ i:Nat) % 2,0⟩]
theorem constTo_length (gs:List Gt) (n:Int):∀ i,(constTo gs n i).length=gs.length + i
 | 0=>rfl
 | i + 1=>by rw [constTo,List.length_append,constTo_length gs n i]; simp; omega
def lessG (gs:List Gt) (ws bs:List Int):List Gt:=sumTo (notsG gs bs) ws (upW gs.length 4) 1 4 ++ [⟨5,((gs.length + bs.length + 20:Nat):Int),0⟩]
def eqTo (gs:List Gt) (ws bs:List Int):Nat→List Gt
 | 0=>gs
 | i + 1=>eqTo gs ws bs i ++ [⟨3,ws.getD i 0,bs.getD i 0⟩,⟨5,((gs.length + 2 * i:Nat):Int),0⟩]
theorem eqTo_length (gs:List Gt) (ws bs:List Int):∀ i,(eqTo gs ws bs i).length=gs.length + 2 * i
 | 0=>by simp [eqTo]
 | i + 1=>by rw [eqTo,List.length_append,eqTo_length gs ws bs i]; simp; omega
def eqG (gs:List Gt) (ws bs:List Int):List Gt :=
 eqTo gs ws bs 4 ++ [⟨4,((gs.length + 1:Nat):Int),((gs.length + 3:Nat):Int)⟩,⟨4,((gs.length + 8:Nat):Int),((gs.length + 5:Nat):Int)⟩,⟨4,((gs.length + 9:Nat):Int),((gs.length + 7:Nat):Int)⟩]
def muxTo (gs:List Gt) (s:Int) (ws bs:List Int):Nat→List Gt
 | 0=>gs
 | i + 1=>muxTo gs s ws bs i ++ [⟨3,ws.getD i 0,bs.getD i 0⟩,⟨4,s,((gs.length + 3 * i:Nat):Int)⟩,⟨3,((gs.length + 3 * i + 1:Nat):Int),bs.getD i 0⟩]
theorem muxTo_length (gs:List Gt) (s:Int) (ws bs:List Int):∀ i,(muxTo gs s ws bs i).length=gs.length + 3 * i
 | 0=>by simp [muxTo]
 | i + 1=>by rw [muxTo,List.length_append,muxTo_length gs s ws bs i]; simp; omega
def muxW (n:Nat):Nat→List Int
 | 0=>[]
 | i + 1=>muxW n i ++ [((n + 3 * i + 2:Nat):Int)]
def andsTo (gs:List Gt) (x:Int) (ws:List Int):Nat→List Gt
 | 0=>gs
 | k + 1=>andsTo gs x ws k ++ [⟨4,x,ws.getD k 0⟩]
theorem andsTo_length (gs:List Gt) (x:Int) (ws:List Int):∀ k,(andsTo gs x ws k).length=gs.length + k
 | 0=>rfl
 | k + 1=>by rw [andsTo,List.length_append,andsTo_length gs x ws k]; simp; omega
def mulTo (gs:List Gt) (ws bs:List Int):Nat→List Gt × List Int
 | 0=>(andsTo gs (bs.getD 0 0) ws 4,upW gs.length 4)
 | i + 1 =>
  let p:=mulTo gs ws bs i
  let g:=andsTo p.1 (bs.getD (i + 1) 0) ws (3 - i)
  (sumG g (p.2.drop (i + 1)) (upW p.1.length (3 - i)) 0 (2 - i),p.2.take (i + 1) ++ sumW g.length (2 - i))
def bitTo (gs:List Gt) (k:Int) (ws bs:List Int):Nat→List Gt
 | 0=>gs
 | i + 1=>bitTo gs k ws bs i ++ [⟨k,ws.getD i 0,bs.getD i 0⟩]
theorem bitTo_length (gs:List Gt) (k:Int) (ws bs:List Int):∀ i,(bitTo gs k ws bs i).length=gs.length + i
 | 0=>rfl
 | i + 1=>by rw [bitTo,List.length_append,bitTo_length gs k ws bs i]; simp; omega
def inTo (gs:List Gt) (p n:Int):Nat→List Gt
 | 0=>gs
 | i + 1=>inTo gs p n i ++ [⟨1,(p * 4 + n) * 4 + i,0⟩]
theorem inTo_length (gs:List Gt) (p n:Int):∀ i,(inTo gs p n i).length=gs.length + i
 | 0=>rfl
 | i + 1=>by rw [inTo,List.length_append,inTo_length gs p n i]; simp; omega
theorem gate3 {k a b:Int} {n:Nat} (hk:k=3∨k=4) (ha:wireB n a=true) (hb:wireB n b=true):gateB ⟨k,a,b⟩ n=true:=by
 have h1:=wireB_iff.1 ha
 have h2:=wireB_iff.1 hb
 unfold gateB
 dsimp only
 rw [if_neg (by omega),if_neg (by omega),if_pos hk]
 rw [inB_iff.2 ⟨by omega,by omega⟩,inB_iff.2 ⟨by omega,by omega⟩]
 rfl
theorem gate5 {a:Int} {n:Nat} (ha:wireB n a=true):gateB ⟨5,a,0⟩ n=true:=by
 have h1:=wireB_iff.1 ha
 unfold gateB
 dsimp only
 rw [if_neg (by decide),if_neg (by decide),if_neg (by decide),if_pos rfl,inB_iff.2 ⟨by omega,by omega⟩]
 rfl
theorem gate2 {a:Int} {n:Nat} (ha:a=0∨a=1):gateB ⟨2,a,0⟩ n=true:=by
 unfold gateB
 dsimp only
 rw [if_neg (by decide),if_pos rfl,inB_iff.2 (by omega)]
 rfl
theorem wire_at {n i:Nat} (h:i < n):wireB n ((i:Nat):Int)=true:=wireB_iff.2 (by omega)
theorem full_ok {gs:List Gt} {a b c:Int} (h:gatesB 0 gs=true) (ha:wireB gs.length a=true) (hb:wireB gs.length b=true) (hc:wireB gs.length c=true):gatesB 0 (fullG gs a b c)=true:=by
 unfold fullG
 rw [gatesB_append,h]
 simp only [gatesB,Bool.true_and,Bool.and_true,Bool.and_eq_true,Nat.zero_add]
 exact ⟨gate3 (.inl rfl) ha hc,gate3 (.inl rfl) (wireB_mono hb (by omega)) (wireB_mono hc (by omega)),gate3 (.inl rfl) (wireB_mono ha (by omega)) (wire_at (by omega)),gate3 (.inr rfl) (wire_at (by omega)) (wire_at (by omega)),gate3 (.inl rfl) (wire_at (by omega)) (wireB_mono hc (by omega))⟩
theorem sumTo_ok {gs:List Gt} {ws bs:List Int} {first:Int} (h:gatesB 0 gs=true) (hf:first=0∨first=1):∀ i,(∀ j,j < i→wireB gs.length (ws.getD j 0)=true∧wireB gs.length (bs.getD j 0)=true)→gatesB 0 (sumTo gs ws bs first i)=true
 | 0,_=>gatesB_snoc h (gate2 hf)
 | i + 1,hw=>by
  have hl:=sumTo_length gs ws bs first i
  obtain ⟨h1,h2⟩:=hw i (by omega)
  exact full_ok (sumTo_ok h hf i fun j hj=>hw j (by omega)) (wireB_mono h1 (by omega)) (wireB_mono h2 (by omega)) (wire_at (by omega))
theorem sumG_ok {gs:List Gt} {ws bs:List Int} {first:Int} {m:Nat} (h:gatesB 0 gs=true) (hf:first=0∨first=1) (hw:∀ j,j≤m→wireB gs.length (ws.getD j 0)=true∧wireB gs.length (bs.getD j 0)=true):gatesB 0 (sumG gs ws bs first m)=true:=by
 have hl:=sumTo_length gs ws bs first m
 unfold sumG
 rw [gatesB_append,sumTo_ok h hf m fun j hj=>hw j (by omega)]
 obtain ⟨h1,h2⟩:=hw m (Nat.le_refl _)
 simp only [gatesB,Bool.true_and,Bool.and_true,Bool.and_eq_true,Nat.zero_add]
 exact ⟨gate3 (.inl rfl) (wireB_mono h1 (by omega)) (wireB_mono h2 (by omega)),gate3 (.inl rfl) (wire_at (by omega)) (wire_at (by omega))⟩
theorem nots_ok {gs:List Gt} (h:gatesB 0 gs=true):∀ {bs:List Int},(∀ b∈bs,wireB gs.length b=true)→gatesB 0 (notsG gs bs)=true:=fun {bs} hb=>by
 unfold notsG
 rw [gatesB_append,h,Bool.true_and]
 have:∀ (n:Nat) (l:List Int),gs.length≤n→(∀ b∈l,wireB gs.length b=true)→gatesB n (l.map fun b=>(⟨5,b,0⟩:Gt))=true:=fun n l=>by
  induction l generalizing n with
  | nil=>intro _ _; rfl
  | cons b l ih =>
   intro hn hl
   simp only [List.map_cons,gatesB,Bool.and_eq_true]
   exact ⟨gate5 (wireB_mono (hl b (by simp)) hn),ih (n + 1) (by omega) fun c hc=>hl c (by simp [hc])⟩
 exact this _ bs (by omega) hb
open Go.RowKit
def eqGt (a b:Gt):Bool:=a.k == b.k && (a.a == b.a && a.b == b.b)
theorem eqGt_iff {a b:Gt}:eqGt a b=true↔a=b:=by
 obtain ⟨k,x,y⟩:=a
 obtain ⟨k',x',y'⟩:=b
 simp [eqGt]
def findG:List Gt→Gt→Nat
 | [],_=>0
 | h :: r,g=>if eqGt h g=true then 0 else findG r g + 1
theorem findG_le:∀ (l:List Gt) (g:Gt),findG l g≤l.length
 | [],_=>Nat.le_refl _
 | h :: r,g=>by
  have:=findG_le r g
  unfold findG
  split
  ·simp
  ·simp only [List.length_cons]; omega
theorem findG_lt:∀ {l:List Gt} {g:Gt},findG l g < l.length→l[findG l g]? = some g
 | [],_,h=>absurd h (by simp [findG])
 | x :: r,g,h=>by
  unfold findG at h ⊢
  split
  ·next he=>rw [eqGt_iff.1 he]; rfl
  ·next he =>
   rw [if_neg he] at h
   simp only [List.length_cons] at h
   have:=findG_lt (l:=r) (g:=g) (by omega)
   simpa using this
theorem findG_first:∀ {l:List Gt} {g:Gt} {i:Nat},i < findG l g→l[i]?≠some g
 | [],_,i,h=>absurd h (by simp [findG])
 | x :: r,g,i,h=>by
  unfold findG at h
  split at h
  ·omega
  ·next he =>
   cases i with
   | zero =>
    intro e
    injection e with e
    exact he (eqGt_iff.2 e)
   | succ i=>simpa using findG_first (l:=r) (g:=g) (i:=i) (by omega)
theorem findG_none {l:List Gt} {g:Gt} (h:¬ findG l g < l.length):∀ i:Nat,l[i]?≠some g:=fun i e=>by
 have hl:=findG_le l g
 have hi:=(List.getElem?_eq_some_iff.1 e).1
 exact findG_first (by omega) e
theorem findG_at {l:List Gt} {g:Gt} {i:Nat} (h:l[i]? = some g):findG l g≤i:=by
 rcases Nat.lt_or_ge i (findG l g) with h1 | h1
 ·exact absurd h (findG_first h1)
 ·exact h1
theorem findG_len {l:List Gt} {g:Gt} (h:¬ findG l g < l.length):findG l g=l.length:=by
 have:=findG_le l g
 omega
def putG (gs:List Gt) (g:Gt):List Gt:=if findG gs g < gs.length then gs else gs ++ [g]
def put2 (gs:List Gt) (g:Gt):List Gt × Int:=(putG gs g,(findG gs g:Int))
def gtAt (gs:List Gt) (w:Int):Gt:=gs.getD w.toNat ⟨0,0,0⟩
def valG (gs:List Gt) (w:Int):Int:=if (gtAt gs w).k=2 then (gtAt gs w).a else -1
def negG (gs:List Gt) (w:Int):List Gt × Int :=
 if (gtAt gs w).k=2 then put2 gs ⟨2,1 - (gtAt gs w).a,0⟩
 else if (gtAt gs w).k=5 then (gs,(gtAt gs w).a)
 else put2 gs ⟨5,w,0⟩
def halfG (gs:List Gt) (k a b:Int) (o:List Gt × Int):List Gt × Int :=
 if valG gs a=0∧k=3∨valG gs a=1∧k=4 then (gs,b)
 else if valG gs a=1 then negG gs b
 else if valG gs a=0 then put2 gs ⟨2,0,0⟩
 else o
def binG (gs:List Gt) (k a b:Int):List Gt × Int :=
 if a=b then (if k=4 then (gs,a) else put2 gs ⟨2,0,0⟩)
 else halfG gs k a b (halfG gs k b a (put2 gs ⟨k,min a b,max a b⟩))
def simpP (gs:List Gt) (tw:List Int) (g:Gt):List Gt × Int :=
 if g.k=3∨g.k=4 then binG gs g.k (tw.getD g.a.toNat 0) (tw.getD g.b.toNat 0)
 else if g.k=5 then negG gs (tw.getD g.a.toNat 0)
 else put2 gs ⟨g.k,g.a,0⟩
def simpS (st:List Gt × List Int) (g:Gt):List Gt × List Int:=((simpP st.1 st.2 g).1,st.2 ++ [(simpP st.1 st.2 g).2])
def simpTo (gs:List Gt):List Gt × List Int:=gs.foldl simpS ([],[])
def mapO (tw:List Int) (os:List Int):List Int:=os.map fun w=>tw.getD w.toNat 0
def simpC (gs:List Gt) (os:List Int):List Gt × List Int:=if circB gs os=true then ((simpTo gs).1,mapO (simpTo gs).2 os) else (gs,os)
theorem simpTo_snoc (gs:List Gt) (g:Gt):simpTo (gs ++ [g])=simpS (simpTo gs) g:=by simp [simpTo]
def live0 (n:Nat) (os:List Int):List Bool:=os.foldl (fun L w=>L.set w.toNat true) (List.replicate n false)
def liveP (g:Gt) (L:List Bool):List Bool :=
 if g.k=3∨g.k=4 then (L.set g.a.toNat true).set g.b.toNat true else if g.k=5 then L.set g.a.toNat true else L
def liveS (gs:List Gt) (L:List Bool) (i:Nat):List Bool:=if L.getD i false=true then liveP (gs.getD i ⟨0,0,0⟩) L else L
def liveTo (gs:List Gt) (L:List Bool):Nat→List Bool
 | 0=>L
 | i + 1=>liveTo gs (liveS gs L i) i
def liveG (gs:List Gt) (os:List Int):List Bool:=liveTo gs (live0 gs.length os) gs.length
def reG (tw:List Int) (g:Gt):Gt :=
 if g.k=3∨g.k=4 then ⟨g.k,tw.getD g.a.toNat 0,tw.getD g.b.toNat 0⟩ else if g.k=5 then ⟨g.k,tw.getD g.a.toNat 0,g.b⟩ else g
def prS (gs:List Gt) (L:List Bool) (st:List Gt × List Int) (i:Nat):List Gt × List Int :=
 if L.getD i false=true then (st.1 ++ [reG st.2 (gs.getD i ⟨0,0,0⟩)],st.2.set i (st.1.length:Int)) else st
def prTo (gs:List Gt) (L:List Bool):Nat→List Gt × List Int
 | 0=>([],List.replicate gs.length 0)
 | i + 1=>prS gs L (prTo gs L i) i
def prunC (gs:List Gt) (os:List Int):List Gt × List Int :=
 if circB gs os=true then ((prTo gs (liveG gs os) gs.length).1,mapO (prTo gs (liveG gs os) gs.length).2 os) else (gs,os)
def optC (gs:List Gt) (os:List Int):List Gt × List Int:=prunC (simpC gs os).1 (simpC gs os).2
def Apart (gs:List Gt):Prop:=∀ (i j:Nat) (g:Gt),gs[i]? = some g→gs[j]? = some g→i=j
theorem apart_put {gs:List Gt} (h:Apart gs) (g:Gt):Apart (putG gs g):=by
 unfold putG
 split
 ·exact h
 ·next hn =>
  have hno:=findG_none hn
  intro i j x hi hj
  have hil:=(List.getElem?_eq_some_iff.1 hi).1
  have hjl:=(List.getElem?_eq_some_iff.1 hj).1
  rw [List.length_append,List.length_singleton] at hil hjl
  by_cases h1:i < gs.length
  ·rw [List.getElem?_append_left h1] at hi
   by_cases h2:j < gs.length
   ·rw [List.getElem?_append_left h2] at hj
    exact h i j x hi hj
   ·obtain rfl:j=gs.length:=by omega
    simp at hj
    subst hj
    exact absurd hi (hno i)
  ·obtain rfl:i=gs.length:=by omega
   simp at hi
   subst hi
   by_cases h2:j < gs.length
   ·rw [List.getElem?_append_left h2] at hj
    exact absurd hj (hno j)
   ·omega
theorem put_le (gs:List Gt) (g:Gt):gs.length≤(putG gs g).length∧(putG gs g).length≤gs.length + 1∧findG gs g < (putG gs g).length:=by
 have:=findG_le gs g
 unfold putG
 split
 ·omega
 ·simp; omega
structure OkP (gs:List Gt) (p:List Gt × Int):Prop where
 g:gatesB 0 p.1=true
 ap:Apart p.1
 lo:gs.length≤p.1.length
 hi:p.1.length≤gs.length + 1
 w:wireB p.1.length p.2=true
theorem put_ok {gs:List Gt} {g:Gt} (h:gatesB 0 gs=true) (ha:Apart gs) (hg:gateB g gs.length=true):OkP gs (put2 gs g):=by
 have hl:=put_le gs g
 refine ⟨?_,apart_put ha g,hl.1,hl.2.1,wire_at hl.2.2⟩
 show gatesB 0 (putG gs g)=true
 unfold putG
 split
 ·exact h
 ·exact gatesB_snoc h hg
theorem same_ok {gs:List Gt} {w:Int} (h:gatesB 0 gs=true) (ha:Apart gs) (hw:wireB gs.length w=true):OkP gs (gs,w):=⟨h,ha,Nat.le_refl _,Nat.le_succ _,hw⟩
theorem gt_at {gs:List Gt} {w:Int} (hw:wireB gs.length w=true):gs[w.toNat]? = some (gtAt gs w):=by
 have:=wireB_iff.1 hw
 unfold gtAt
 rw [List.getD_eq_getElem?_getD,List.getElem?_eq_getElem (by omega)]
 rfl
theorem gt_ok {gs:List Gt} {w:Int} (h:gatesB 0 gs=true) (hw:wireB gs.length w=true):gateB (gtAt gs w) w=true:=by
 have h1:=gatesB_at h (gt_at hw)
 have:=wireB_iff.1 hw
 rw [show ((0 + w.toNat:Nat):Int)=w by omega] at h1
 exact h1
theorem gate_is2 {g:Gt} {n:Int} (h:gateB g n=true) (hk:g.k=2):(g.a=0∨g.a=1)∧g.b=0:=by
 unfold gateB at h
 rw [if_neg (by omega),if_pos hk] at h
 simp only [Bool.and_eq_true,inB_iff,beq_iff_eq] at h
 omega
theorem gate_is1 {g:Gt} {n:Int} (h:gateB g n=true) (hk:g.k=1):(0≤g.a∧g.a≤79)∧g.b=0:=by
 unfold gateB at h
 rw [if_pos hk] at h
 simp only [Bool.and_eq_true,inB_iff,beq_iff_eq] at h
 omega
theorem gate_is5 {g:Gt} {n:Int} (h:gateB g n=true) (hk:g.k=5):(0≤g.a∧g.a < n)∧g.b=0:=by
 unfold gateB at h
 rw [if_neg (by omega),if_neg (by omega),if_neg (by omega),if_pos hk] at h
 simp only [Bool.and_eq_true,inB_iff,beq_iff_eq] at h
 omega
theorem gate_is34 {g:Gt} {n:Int} (h:gateB g n=true) (hk:g.k=3∨g.k=4):(0≤g.a∧g.a < n)∧(0≤g.b∧g.b < n):=by
 unfold gateB at h
 rw [if_neg (by omega),if_neg (by omega),if_pos hk] at h
 simp only [Bool.and_eq_true,inB_iff] at h
 omega
theorem gate_kind {g:Gt} {n:Int} (h:gateB g n=true):g.k=1∨g.k=2∨g.k=3∨g.k=4∨g.k=5:=by
 unfold gateB at h
 by_cases h1:g.k=1
 ·exact .inl h1
 by_cases h2:g.k=2
 ·exact .inr (.inl h2)
 by_cases h3:g.k=3∨g.k=4
 ·rcases h3 with h3 | h3
  ·exact .inr (.inr (.inl h3))
  ·exact .inr (.inr (.inr (.inl h3)))
 by_cases h5:g.k=5
 ·exact .inr (.inr (.inr (.inr h5)))
 rw [if_neg h1,if_neg h2,if_neg h3,if_neg h5] at h
 cases h
theorem neg_ok {gs:List Gt} {w:Int} (h:gatesB 0 gs=true) (ha:Apart gs) (hw:wireB gs.length w=true):OkP gs (negG gs w):=by
 have hg:=gt_ok h hw
 have hw':=wireB_iff.1 hw
 unfold negG
 by_cases h2:(gtAt gs w).k=2
 ·rw [if_pos h2]
  have:=gate_is2 hg h2
  exact put_ok h ha (gate2 (by omega))
 rw [if_neg h2]
 by_cases h5:(gtAt gs w).k=5
 ·rw [if_pos h5]
  have:=gate_is5 hg h5
  exact same_ok h ha (wireB_iff.2 (by omega))
 rw [if_neg h5]
 exact put_ok h ha (gate5 hw)
theorem half_ok {gs:List Gt} {k a b:Int} {o:List Gt × Int} (h:gatesB 0 gs=true) (ha:Apart gs) (hb:wireB gs.length b=true) (ho:OkP gs o):OkP gs (halfG gs k a b o):=by
 unfold halfG
 split
 ·exact same_ok h ha hb
 split
 ·exact neg_ok h ha hb
 split
 ·exact put_ok h ha (gate2 (.inl rfl))
 ·exact ho
theorem bin_ok {gs:List Gt} {k a b:Int} (hk:k=3∨k=4) (h:gatesB 0 gs=true) (ha:Apart gs) (wa:wireB gs.length a=true) (wb:wireB gs.length b=true):OkP gs (binG gs k a b):=by
 unfold binG
 split
 ·split
  ·exact same_ok h ha wa
  ·exact put_ok h ha (gate2 (.inl rfl))
 ·refine half_ok h ha wb (half_ok h ha wa (put_ok h ha (gate3 hk ?_ ?_)))
  ·have h1:=wireB_iff.1 wa
   have h2:=wireB_iff.1 wb
   exact wireB_iff.2 (by omega)
  ·have h1:=wireB_iff.1 wa
   have h2:=wireB_iff.1 wb
   exact wireB_iff.2 (by omega)
structure OkS (st:List Gt × List Int) (k:Nat):Prop where
 g:gatesB 0 st.1=true
 ap:Apart st.1
 hi:st.1.length≤k
 tl:st.2.length=k
 t:∀ w∈st.2,wireB st.1.length w=true
theorem OkS.at_ {st:List Gt × List Int} {k:Nat} (h:OkS st k) {x:Int} (hx:0≤x∧x < k):st.2[x.toNat]? = some (st.2.getD x.toNat 0)∧wireB st.1.length (st.2.getD x.toNat 0)=true:=by
 have hl:=h.tl
 have e:st.2[x.toNat]? = some (st.2.getD x.toNat 0):=by
  rw [List.getD_eq_getElem?_getD,List.getElem?_eq_getElem (by omega)]
  rfl
 exact ⟨e,h.t _ (List.mem_of_getElem? e)⟩
theorem simpP_ok {st:List Gt × List Int} {k:Nat} (h:OkS st k) {g:Gt} (hg:gateB g k=true):OkP st.1 (simpP st.1 st.2 g):=by
 unfold simpP
 by_cases h34:g.k=3∨g.k=4
 ·rw [if_pos h34]
  have:=gate_is34 hg h34
  exact bin_ok h34 h.g h.ap (h.at_ this.1).2 (h.at_ this.2).2
 rw [if_neg h34]
 by_cases h5:g.k=5
 ·rw [if_pos h5]
  exact neg_ok h.g h.ap (h.at_ (gate_is5 hg h5).1).2
 rw [if_neg h5]
 refine put_ok h.g h.ap ?_
 rcases gate_kind hg with h1 | h1 | h1 | h1 | h1
 ·have:=gate_is1 hg h1
  unfold gateB
  dsimp only
  rw [if_pos h1,inB_iff.2 (by omega)]
  rfl
 ·have:=gate_is2 hg h1
  rw [h1]
  exact gate2 (by omega)
 ·exact absurd (.inl h1) h34
 ·exact absurd (.inr h1) h34
 ·exact absurd h1 h5
theorem simpS_ok {st:List Gt × List Int} {k:Nat} (h:OkS st k) {g:Gt} (hg:gateB g k=true):OkS (simpS st g) (k + 1):=by
 have hp:=simpP_ok h hg
 have hh:=h.hi
 have hph:=hp.hi
 refine ⟨hp.g,hp.ap,by show (simpP st.1 st.2 g).1.length≤_; omega,by simp [simpS,h.tl],fun w hw=>?_⟩
 rcases List.mem_append.1 hw with hw | hw
 ·exact wireB_mono (h.t w hw) hp.lo
 ·simp at hw
  subst hw
  exact hp.w
theorem simp_take {gs:List Gt} (h:gatesB 0 gs=true):∀ k,k≤gs.length→OkS (simpTo (gs.take k)) k
 | 0,_=>⟨rfl,fun i j g hi=>by simp [simpTo] at hi,Nat.le_refl _,rfl,fun w hw=>by simp [simpTo] at hw⟩
 | k + 1,hk=>by
  have hk':k < gs.length:=by omega
  rw [List.take_succ_eq_append_getElem hk',simpTo_snoc]
  have hg:=gatesB_at h (List.getElem?_eq_getElem hk')
  rw [Nat.zero_add] at hg
  exact simpS_ok (simp_take h k (by omega)) hg
theorem simp_all {gs:List Gt} (h:gatesB 0 gs=true):OkS (simpTo gs) gs.length:=by
 have:=simp_take h gs.length (Nat.le_refl _)
 rwa [List.take_length] at this
theorem circ_parts {gs:List Gt} {os:List Int} (h:circB gs os=true):gs.length≤6000∧gatesB 0 gs=true∧outsB gs.length os=true:=by
 unfold circB at h
 simp only [Bool.and_eq_true,decide_eq_true_eq] at h
 exact h
theorem circ_mk {gs:List Gt} {os:List Int} (h1:gs.length≤6000) (h2:gatesB 0 gs=true) (h3:outsB gs.length os=true):circB gs os=true:=by
 unfold circB
 rw [decide_eq_true h1,h2,h3]
 rfl
theorem outs_wire {n:Nat} {os:List Int} (h:outsB n os=true):∀ w∈os,wireB n w=true:=fun w hw=>List.all_eq_true.1 h w hw
theorem simp_valid {gs:List Gt} {os:List Int} (h:circB gs os=true):circB (simpC gs os).1 (simpC gs os).2=true:=by
 obtain ⟨h1,h2,h3⟩:=circ_parts h
 have hs:=simp_all h2
 unfold simpC
 rw [if_pos h]
 have hh:=hs.hi
 refine circ_mk (by show (simpTo gs).1.length≤_; omega) hs.g ?_
 refine List.all_eq_true.2 fun w hw=>?_
 obtain ⟨x,hx,rfl⟩:=List.mem_map.1 hw
 have:=wireB_iff.1 (outs_wire h3 x hx)
 exact (hs.at_ (by omega)).2
theorem liveP_length (g:Gt) (L:List Bool):(liveP g L).length=L.length:=by
 unfold liveP
 split
 ·simp
 split
 ·simp
 ·rfl
theorem liveS_length (gs:List Gt) (L:List Bool) (i:Nat):(liveS gs L i).length=L.length:=by
 unfold liveS
 split
 ·exact liveP_length _ _
 ·rfl
theorem liveTo_length (gs:List Gt):∀ (i:Nat) (L:List Bool),(liveTo gs L i).length=L.length
 | 0,_=>rfl
 | i + 1,L=>by rw [liveTo,liveTo_length gs i,liveS_length]
theorem live0_length (n:Nat) (os:List Int):(live0 n os).length=n:=by
 unfold live0
 have:∀ (os:List Int) (L:List Bool),(os.foldl (fun L w=>L.set w.toNat true) L).length=L.length:=fun os=>by
  induction os with
  | nil=>intro L; rfl
  | cons w os ih=>intro L; rw [List.foldl_cons,ih,List.length_set]
 rw [this,List.length_replicate]
theorem liveG_length (gs:List Gt) (os:List Int):(liveG gs os).length=gs.length:=by rw [liveG,liveTo_length,live0_length]
theorem set_true {L:List Bool} {i j:Nat} (h:L.getD j false=true):(L.set i true).getD j false=true:=by
 rw [List.getD_eq_getElem?_getD] at h ⊢
 rw [List.getElem?_set]
 split
 ·next e =>
  subst e
  split
  ·rfl
  ·next hl =>
   rw [List.getElem?_eq_none (by omega)] at h
   cases h
 ·exact h
theorem set_self {L:List Bool} {i:Nat} (h:i < L.length):(L.set i true).getD i false=true:=by
 rw [List.getD_eq_getElem?_getD,List.getElem?_set,if_pos rfl,if_pos h]
 rfl
theorem set_other {L:List Bool} {i j:Nat} (h:i≠j):(L.set i true).getD j false=L.getD j false:=by
 rw [List.getD_eq_getElem?_getD,List.getElem?_set,if_neg h,List.getD_eq_getElem?_getD]
theorem liveP_mono {g:Gt} {L:List Bool} {j:Nat} (h:L.getD j false=true):(liveP g L).getD j false=true:=by
 unfold liveP
 split
 ·exact set_true (set_true h)
 split
 ·exact set_true h
 ·exact h
theorem liveS_mono {gs:List Gt} {L:List Bool} {i j:Nat} (h:L.getD j false=true):(liveS gs L i).getD j false=true:=by
 unfold liveS
 split
 ·exact liveP_mono h
 ·exact h
theorem liveTo_mono (gs:List Gt):∀ (i:Nat) {L:List Bool} {j:Nat},L.getD j false=true→(liveTo gs L i).getD j false=true
 | 0,_,_,h=>h
 | i + 1,_,_,h=>liveTo_mono gs i (liveS_mono h)
def Fed (gs:List Gt) (L:List Bool) (i:Nat):Prop:=∀ g,gs[i]? = some g→L.getD i false=true →
 ((g.k=3∨g.k=4)→L.getD g.a.toNat false=true∧L.getD g.b.toNat false=true)∧(g.k=5→L.getD g.a.toNat false=true)
theorem liveS_far {gs:List Gt} {L:List Bool} {i j:Nat} (h:gatesB 0 gs=true) (hij:i≤j):(liveS gs L i).getD j false=L.getD j false:=by
 unfold liveS
 split
 ·by_cases hl:i < gs.length
  ·have hg:=gatesB_at h (List.getElem?_eq_getElem hl)
   have e:gs.getD i ⟨0,0,0⟩=gs[i]:=by rw [List.getD_eq_getElem?_getD,List.getElem?_eq_getElem hl]; rfl
   rw [Nat.zero_add] at hg
   rw [e]
   unfold liveP
   split
   ·next hk =>
    have:=gate_is34 hg hk
    rw [set_other (by omega),set_other (by omega)]
   split
   ·next hk =>
    have:=gate_is5 hg hk
    rw [set_other (by omega)]
   ·rfl
  ·have e:gs.getD i ⟨0,0,0⟩=⟨0,0,0⟩:=by rw [List.getD_eq_getElem?_getD,List.getElem?_eq_none (by omega)]; rfl
   rw [e]
   rfl
 ·rfl
theorem liveS_fed {gs:List Gt} {L:List Bool} {i:Nat} (h:gatesB 0 gs=true) (hL:L.length=gs.length):Fed gs (liveS gs L i) i:=by
 intro g hg hl
 rw [liveS_far h (Nat.le_refl _)] at hl
 have hv:=gatesB_at h hg
 have hi:=(List.getElem?_eq_some_iff.1 hg).1
 rw [Nat.zero_add] at hv
 have e:gs.getD i ⟨0,0,0⟩=g:=by rw [List.getD_eq_getElem?_getD,hg]; rfl
 unfold liveS
 rw [if_pos hl,e]
 unfold liveP
 refine ⟨fun hk=>?_,fun hk=>?_⟩
 ·have:=gate_is34 hv hk
  rw [if_pos hk]
  exact ⟨set_true (set_self (by omega)),set_self (by rw [List.length_set]; omega)⟩
 ·have:=gate_is5 hv hk
  rw [if_neg (by omega),if_pos hk]
  exact set_self (by omega)
theorem fed_mono {gs:List Gt} {L L':List Bool} {i:Nat} (h:Fed gs L i) (he:L'.getD i false=L.getD i false) (hm:∀ j,L.getD j false=true→L'.getD j false=true):Fed gs L' i:=by
 intro g hg hl
 rw [he] at hl
 obtain ⟨h1,h2⟩:=h g hg hl
 exact ⟨fun hk=>⟨hm _ (h1 hk).1,hm _ (h1 hk).2⟩,fun hk=>hm _ (h2 hk)⟩
theorem liveTo_fed {gs:List Gt} (h:gatesB 0 gs=true):∀ (i:Nat) {L:List Bool},L.length=gs.length→(∀ j,i≤j→Fed gs L j)→∀ j,Fed gs (liveTo gs L i) j
 | 0,_,_,hf=>fun j=>hf j (Nat.zero_le _)
 | i + 1,L,hL,hf=>by
  refine liveTo_fed h i (by rw [liveS_length,hL]) fun j hj=>?_
  by_cases e:j=i
  ·subst e
   exact liveS_fed h hL
  ·exact fed_mono (hf j (by omega)) (liveS_far h hj) (fun _ h=>liveS_mono h)
theorem liveG_fed {gs:List Gt} (h:gatesB 0 gs=true) (os:List Int):∀ j,Fed gs (liveG gs os) j:=by
 refine liveTo_fed h _ (live0_length _ _) fun j hj=>?_
 intro g hg
 have:=(List.getElem?_eq_some_iff.1 hg).1
 omega
theorem live0_out {n:Nat} {os:List Int} (h:outsB n os=true):∀ w∈os,(live0 n os).getD w.toNat false=true:=by
 have key:∀ (os:List Int) (L:List Bool),L.length=n→(∀ w∈os,wireB n w=true)→(∀ j,L.getD j false=true→(os.foldl (fun L w=>L.set w.toNat true) L).getD j false=true)∧∀ w∈os,(os.foldl (fun L w=>L.set w.toNat true) L).getD w.toNat false=true:=fun os=>by
  induction os with
  | nil=>intro L _ _; exact ⟨fun _ h=>h,fun w hw=>by cases hw⟩
  | cons x os ih =>
   intro L hL hw
   have hx:=wireB_iff.1 (hw x (by simp))
   obtain ⟨i1,i2⟩:=ih (L.set x.toNat true) (by rw [List.length_set,hL]) fun w hw'=>hw w (by simp [hw'])
   rw [List.foldl_cons]
   refine ⟨fun j hj=>i1 j (set_true hj),fun w hw'=>?_⟩
   rcases List.mem_cons.1 hw' with rfl | hw'
   ·exact i1 _ (set_self (by omega))
   ·exact i2 w hw'
 exact (key os _ (List.length_replicate ..) (outs_wire h)).2
theorem liveG_out {gs:List Gt} {os:List Int} (h:outsB gs.length os=true):∀ w∈os,(liveG gs os).getD w.toNat false=true:=fun w hw=>liveTo_mono gs _ (live0_out h w hw)
structure OkR (gs:List Gt) (L:List Bool) (st:List Gt × List Int) (k:Nat):Prop where
 g:gatesB 0 st.1=true
 hi:st.1.length≤k
 tl:st.2.length=gs.length
 t:∀ i,i < k→L.getD i false=true→wireB st.1.length (st.2.getD i 0)=true
theorem reG_ok {gs:List Gt} {L:List Bool} {st:List Gt × List Int} {k:Nat} {g:Gt} (h:OkR gs L st k) (hf:Fed gs L k) (hg:gs[k]? = some g) (hv:gateB g k=true) (hl:L.getD k false=true):gateB (reG st.2 g) st.1.length=true:=by
 obtain ⟨f1,f2⟩:=hf g hg hl
 unfold reG
 by_cases h34:g.k=3∨g.k=4
 ·have hw:=gate_is34 hv h34
  rw [if_pos h34]
  exact gate3 h34 (h.t _ (by omega) (f1 h34).1) (h.t _ (by omega) (f1 h34).2)
 rw [if_neg h34]
 by_cases h5:g.k=5
 ·have hw:=gate_is5 hv h5
  rw [if_pos h5,h5,hw.2]
  exact gate5 (h.t _ (by omega) (f2 h5))
 rw [if_neg h5]
 unfold gateB at hv ⊢
 rw [if_neg h34,if_neg h5] at hv ⊢
 exact hv
theorem prS_ok {gs:List Gt} {L:List Bool} {st:List Gt × List Int} {k:Nat} (h:OkR gs L st k) (hgs:gatesB 0 gs=true) (hf:Fed gs L k) (hk:k < gs.length):OkR gs L (prS gs L st k) (k + 1):=by
 have hv:=gatesB_at hgs (List.getElem?_eq_getElem hk)
 rw [Nat.zero_add] at hv
 have e:gs.getD k ⟨0,0,0⟩=gs[k]:=by rw [List.getD_eq_getElem?_getD,List.getElem?_eq_getElem hk]; rfl
 have hhi:=h.hi
 have htl:=h.tl
 unfold prS
 split
 ·next hl =>
  rw [e]
  refine ⟨gatesB_snoc h.g (reG_ok h hf (List.getElem?_eq_getElem hk) hv hl),by simp; omega,by simp [htl],fun i hi hLi=>?_⟩
  show wireB (st.1 ++ _).length ((st.2.set k _).getD i 0)=true
  rw [List.length_append,List.length_singleton,List.getD_eq_getElem?_getD,List.getElem?_set]
  split
  ·next e =>
   subst e
   rw [if_pos (by omega)]
   exact wire_at (by omega)
  ·rw [←List.getD_eq_getElem?_getD]
   exact wireB_mono (h.t i (by omega) hLi) (by omega)
 ·next hl =>
  refine ⟨h.g,by omega,htl,fun i hi hLi=>?_⟩
  by_cases e:i=k
  ·subst e
   exact absurd hLi hl
  ·exact h.t i (by omega) hLi
theorem prTo_ok {gs:List Gt} {L:List Bool} (hgs:gatesB 0 gs=true) (hf:∀ j,Fed gs L j):∀ k,k≤gs.length→OkR gs L (prTo gs L k) k
 | 0,_=>⟨rfl,Nat.le_refl _,by simp [prTo],fun i hi=>by omega⟩
 | k + 1,hk=>prS_ok (prTo_ok hgs hf k (by omega)) hgs (hf k) (by omega)
theorem prun_valid {gs:List Gt} {os:List Int} (h:circB gs os=true):circB (prunC gs os).1 (prunC gs os).2=true:=by
 obtain ⟨h1,h2,h3⟩:=circ_parts h
 have hr:=prTo_ok h2 (liveG_fed h2 os) gs.length (Nat.le_refl _)
 unfold prunC
 rw [if_pos h]
 have hh:=hr.hi
 refine circ_mk (by show (prTo gs (liveG gs os) gs.length).1.length≤_; omega) hr.g ?_
 refine List.all_eq_true.2 fun w hw=>?_
 obtain ⟨x,hx,rfl⟩:=List.mem_map.1 hw
 have:=wireB_iff.1 (outs_wire h3 x hx)
 exact hr.t _ (by omega) (liveG_out h3 x hx)
theorem opt_valid {gs:List Gt} {os:List Int} (h:circB gs os=true):circB (optC gs os).1 (optC gs os).2=true:=prun_valid (simp_valid h)
def andG (gs:List Gt):Nat:=(gs.filter (fun g=>g.k == 4)).length
def andOne (g:Gt):Nat:=if (g.k == 4)=true then 1 else 0
theorem andG_snoc (gs:List Gt) (g:Gt):andG (gs ++ [g])=andG gs + andOne g:=by
 unfold andG andOne
 rw [List.filter_append,List.length_append]
 cases hk:(g.k == 4) <;> simp [List.filter,hk]
open Go.RowKit
def hashI (x n:Int):Int:=keyedI 77 n x % 65536
def ifI (b x:Int):Int:=pick (b == 1) x 0
def xorI (a b:Int):Int:=bits .xor .i64 a b
def oneI (a:Int):Int:=bits .and .i64 a 1
def tgI (d a b n:Int):Int:=xorI (xorI (hashI a (2 * n)) (hashI (xorI a d) (2 * n))) (ifI (oneI b) d)
def teI (d a b n:Int):Int:=xorI (xorI (hashI b (2 * n + 1)) (hashI (xorI b d) (2 * n + 1))) a
def gaI (d a b n:Int):Int:=xorI (xorI (xorI (hashI a (2 * n)) (hashI b (2 * n + 1))) (ifI (oneI a) (tgI d a b n))) (ifI (oneI b) (xorI (teI d a b n) a))
def garZ (s d:Int) (zs:List Int) (n:Nat) (g:Gt):Int :=
 if g.k=1 then zeroI s g.a
 else if g.k=2 then zeroI s (1000 + n)
 else if g.k=3 then xorI (zs.getD g.a.toNat 0) (zs.getD g.b.toNat 0)
 else if g.k=5 then xorI (zs.getD g.a.toNat 0) d
 else gaI d (zs.getD g.a.toNat 0) (zs.getD g.b.toNat 0) n
def garT (d:Int) (zs:List Int) (n:Nat) (g:Gt):List Int :=
 if (g.k == 4)=true then [tgI d (zs.getD g.a.toNat 0) (zs.getD g.b.toNat 0) n,teI d (zs.getD g.a.toNat 0) (zs.getD g.b.toNat 0) n] else []
def garTo (s d:Int) (gs:List Gt):Nat→List Int × List Int
 | 0=>([],[])
 | j + 1=>((garTo s d gs j).1 ++ [garZ s d (garTo s d gs j).1 j (gs.getD j ⟨0,0,0⟩)],(garTo s d gs j).2 ++ garT d (garTo s d gs j).1 j (gs.getD j ⟨0,0,0⟩))
theorem gar_zeros (s d:Int) (gs:List Gt):∀ j,(garTo s d gs j).1.length=j
 | 0=>rfl
 | j + 1=>by rw [garTo,List.length_append,gar_zeros s d gs j]; rfl
theorem garT_length (d:Int) (zs:List Int) (n:Nat) (g:Gt):(garT d zs n g).length=2 * andOne g:=by
 unfold garT andOne
 split <;> rfl
theorem gar_tables (s d:Int) (gs:List Gt):∀ j,j≤gs.length→(garTo s d gs j).2.length=2 * andG (gs.take j)
 | 0,_=>rfl
 | j + 1,hj=>by
  have hl:j < gs.length:=by omega
  have e1:gs.take (j + 1)=gs.take j ++ [gs[j]]:=List.take_succ_eq_append_getElem hl
  have e2:gs.getD j ⟨0,0,0⟩=gs[j]:=by rw [List.getD_eq_getElem?_getD,List.getElem?_eq_getElem hl]; rfl
  rw [garTo,List.length_append,garT_length,gar_tables s d gs j (by omega),e1,andG_snoc,e2]
  omega
open Go.RowKit
theorem hash_label (x n:Int):labelB (hashI x n)=true:=by
 obtain ⟨h0,h1⟩:=keyedI_range 77 n x
 unfold hashI
 exact labelB_iff.2 (by omega)
open Go.RowKit
theorem xorI_label {a b:Int} (ha:labelB a=true) (hb:labelB b=true):labelB (xorI a b)=true:=xor_label ha hb
theorem zero_lab:labelB 0=true:=by decide
theorem ifI_label {b x:Int} (hx:labelB x=true):labelB (ifI b x)=true:=by
 unfold ifI
 cases (b == 1)
 ·exact zero_lab
 ·exact hx
theorem tg_label {d a b:Int} (n:Int) (hd:labelB d=true):labelB (tgI d a b n)=true:=xorI_label (xorI_label (hash_label _ _) (hash_label _ _)) (ifI_label hd)
theorem te_label {d a b:Int} (n:Int) (ha:labelB a=true):labelB (teI d a b n)=true:=xorI_label (xorI_label (hash_label _ _) (hash_label _ _)) ha
theorem ga_label {d a b:Int} (n:Int) (hd:labelB d=true) (ha:labelB a=true):labelB (gaI d a b n)=true :=
 xorI_label (xorI_label (xorI_label (hash_label _ _) (hash_label _ _)) (ifI_label (tg_label n hd))) (ifI_label (xorI_label (te_label n ha) ha))
theorem getD_label {zs:List Int} (h:∀ z∈zs,labelB z=true) (i:Nat):labelB (zs.getD i 0)=true:=by
 rw [List.getD_eq_getElem?_getD]
 cases hx:zs[i]? with
 | none=>exact zero_lab
 | some z=>exact h z (List.mem_of_getElem? hx)
theorem garZ_label {s d:Int} {zs:List Int} (n:Nat) (g:Gt) (hd:labelB d=true) (h:∀ z∈zs,labelB z=true):labelB (garZ s d zs n g)=true:=by
 unfold garZ
 split
 ·exact zero_label _ _
 ·split
  ·exact zero_label _ _
  ·split
   ·exact xorI_label (getD_label h _) (getD_label h _)
   ·split
    ·exact xorI_label (getD_label h _) hd
    ·exact ga_label _ hd (getD_label h _)
theorem gar_labels {s d:Int} (gs:List Gt) (hd:labelB d=true):∀ j,∀ z∈(garTo s d gs j).1,labelB z=true
 | 0,z,hz=>by simp [garTo] at hz
 | j + 1,z,hz=>by
  rw [garTo,List.mem_append,List.mem_singleton] at hz
  rcases hz with hz | rfl
  ·exact gar_labels gs hd j z hz
  ·exact garZ_label _ _ hd (gar_labels gs hd j)
theorem garT_labels {d:Int} {zs:List Int} (n:Nat) (g:Gt) (hd:labelB d=true) (h:∀ z∈zs,labelB z=true):∀ t∈garT d zs n g,labelB t=true:=by
 unfold garT
 split
 ·intro t ht
  rw [List.mem_cons,List.mem_singleton] at ht
  rcases ht with rfl | rfl
  ·exact tg_label _ hd
  ·exact te_label _ (getD_label h _)
 ·intro t ht
  cases ht
theorem gar_tlabels {s d:Int} (gs:List Gt) (hd:labelB d=true):∀ j,∀ t∈(garTo s d gs j).2,labelB t=true
 | 0,z,hz=>by simp [garTo] at hz
 | j + 1,z,hz=>by
  rw [garTo,List.mem_append] at hz
  rcases hz with hz | hz
  ·exact gar_tlabels gs hd j z hz
  ·exact garT_labels _ _ hd (gar_labels gs hd j) z hz
open Go.RowKit
def Row (w:World) (g e size n c:Nat) (xs:List Value):Prop:=w.ownsRow 0 e size (.slice (some ⟨g,0,none⟩) n c) n xs
section
variable {w w':World} {g e size n c:Nat} {xs:List Value}
theorem Row.parts (h:Row w g e size n c xs):xs.length=n * size∧∃ cur,w.heap[g]? = some (.cells cur e (0,0))∧n≤c∧c≤maxLen∧cur.size=c * size∧cur.toList.take (n * size)=xs:=by
 refine ⟨h.1,?_⟩
 rcases h.2 with ⟨hv,_⟩ | ⟨g',cap,cur,hv,_,h1,h2,h3,h4,h5⟩
 ·cases hv
 ·injection hv with e1 _ e3
  injection e1 with e1
  injection e1 with e1
  subst e1 e3
  exact ⟨cur,h1,h2,h3,h4,h5⟩
theorem Row.lt (h:Row w g e size n c xs):g < w.heap.size:=(World.ownsRow.lt h g rfl).2
theorem Row.cap (h:Row w g e size n c xs):n≤c:=by
 obtain ⟨_,_,_,h,_⟩:=h.parts
 exact h
theorem Row.len (h:Row w g e size n c xs):xs.length=n * size:=h.1
theorem Row.below (h:Row w g e size n c xs) (hb:Below w.heap.size w w'):Row w' g e size n c xs:=own_below h hb
theorem Row.grown {q:Nat} (h:Row w g e size n c xs) (hg:w.grownBy w' (some q)) (hne:g≠q):Row w' g e size n c xs :=
 gr_own hg h fun a b ha hb=>by
  injection ha with ha
  have:some g=some b:=hb
  injection this with this
  omega
theorem Row.alloc (h:Row w g e size n c xs) (o:Obj):Row (w.alloc o) g e size n c xs:=World.ownsRow.alloc h o
theorem Row.cells (h:Row w g e size n c xs):Cells w w.heap.size (some ⟨g,0,none⟩) xs:=Cells.of_own h
theorem Row.cell (h:Row w g e size n c xs) {k:Nat} {v:Value} (hk:xs[k]? = some v):w.cell? ⟨g,k,none⟩=some v:=by
 obtain ⟨b,off,e,_,hc⟩:=h.cells (by have:=(List.getElem?_eq_some_iff.1 hk).1; omega)
 injection e with e
 injection e with e1 e2
 subst e1 e2
 have:=hc k v hk
 rwa [Nat.zero_add] at this
theorem Row.new (cs:Array Value) (hn:n≤maxLen) (hs:cs.size=n * size) (hg:g=w.heap.size):Row (w.alloc (.cells cs e)) g e size n n cs.toList:=by
 subst hg
 exact own_lit cs n rfl (Nat.zero_le _) hn hs
theorem Row.own {base:Nat} (h:Row w g e size n c xs) (hb:base≤g):w.ownsRow base e size (.slice (some ⟨g,0,none⟩) n c) n xs:=by
 obtain ⟨h0,cur,h1,h2,h3,h4,h5⟩:=h.parts
 exact ⟨h0,.inr ⟨g,c,cur,rfl,hb,h1,h2,h3,h4,h5⟩⟩
end
theorem wpList_apps {P:Program} {w:World} {ops:Array Oper} {rest:List Oper} {o:Oper} {a:Act} {Q:Exit→Act→World→Prop} (hgd:o.guard=none) (s x:Operand) (t:TypeId)
  (ho:o.op=.call { callee:=.builtin .append,args:=#[s,x],argTypes:=#[t,t] })
  (e:Nat) (z:Value) (size bytes:Nat) (ht:P.underlying t=some (.slice e)) (hinfo:(P.info? e).map (fun i=>(i.zero,i.size,i.bytes))=some (some z,size,bytes)) (hzs:z.cells.size=size) (hsz:0 < size)
  {g n c:Nat} {xs:List Value} (hs:a.eval s=.slice (some ⟨g,0,none⟩) n c) (hown:Row w g e size n c xs)
  (ad:Addr) (m k:Nat) (news:List Value) (hx:a.eval x=.slice (some ad) m k) (hl:news.length=m * size) (hnews:∀ j u,news[j]? = some u→w.cell? (ad.add j)=some u) (h1:∀ u∈news,u.oneCell'=true)
  (hbound:n + m≤1000000000) (hbytes:bytes≤1000)
  (h:∀ g' c' w',Row w' g' e size (n + m) c' (xs ++ news)→w.grownBy w' (some g)→(g'=g∨g'=w.heap.size)→wpList P ops Q rest (a.put o.dst (.slice (some ⟨g',0,none⟩) (n + m) c')) w'):wpList P ops Q (o :: rest) a w:=by
 obtain ⟨i,hi,hz0,hz1,hz2⟩:=info_parts hinfo
 have hmul:(n + m) * bytes≤1000000000 * 1000:=Nat.mul_le_mul hbound hbytes
 refine wpList_append_own_at w hgd s x t ho 0 e i z size bytes ht hi hz0 hz1 hz2 hzs hsz _ n xs hs hown ad m k news hx hl hnews h1 (by unfold maxLen; omega) (by omega) (Nat.zero_le _) ?_
 intro v' w' hown' hg' hnil hbl
 rcases hown'.2 with ⟨hv,_⟩ | ⟨g',cap,cur,hv,_⟩
 ·exact absurd (hnil.1 hv).1 (by simp)
 ·subst hv
  refine h g' cap w' hown' hg' ?_
  rcases hbl with hb | hb
  ·have hb:some g'=some g:=hb
   injection hb with hb
   exact .inl hb
  ·have hb:some g'=some w.heap.size:=hb
   injection hb with hb
   exact .inr hb
theorem below_apps {B:Nat} {w0 w w':World} {g:Nat} (h:Below B w0 w) (hg:w.grownBy w' (some g)) (h1:B≤w.heap.size) (h2:B≤g):Below B w0 w' :=
 gr_below hg h h1 fun q hq=>by injection hq with hq; omega
theorem cells_add {w:World} {b off:Nat} {xs:List Value} (hc:∀ i v,xs[i]? = some v→w.cell? ⟨b,off + i,none⟩=some v):∀ j u,xs[j]? = some u→w.cell? ((⟨b,off,none⟩:Addr).add j)=some u:=fun j u hu=>by
 have e:(⟨b,off,none⟩:Addr).add j=⟨b,off + j,none⟩:=by simp [Addr.add]
 rw [e]
 exact hc j u hu
theorem ints_app (xs ys:List Int):ints (xs ++ ys)=ints xs ++ ints ys:=List.map_append
theorem infoSt:(Tryz.prog.info? 73).map (fun i=>(i.zero,i.size,i.bytes))=some (some (.agg #[.int .i64 0,.int .i64 0,.int .i64 0,.int .i64 0,.int .i64 0,.int .i64 0]),6,48):=by kernel_rfl
theorem infoGt:(Tryz.prog.info? 96).map (fun i=>(i.zero,i.size,i.bytes))=some (some (.agg #[.int .i64 0,.int .i64 0,.int .i64 0]),3,24):=by kernel_rfl
theorem infoI:(Tryz.prog.info? 3).map (fun i=>(i.zero,i.size,i.bytes))=some (some (.int .i64 0),1,8):=by kernel_rfl
abbrev RowS (w:World) (g n c:Nat) (L:List St):Prop:=Row w g 73 6 n c (ints (flatS L))
abbrev RowI (w:World) (g n c:Nat) (L:List Int):Prop:=Row w g 3 1 n c (ints L)
section
variable {w:World} {ops:Array Oper} {rest:List Oper} {o:Oper} {a:Act} {Q:Exit→Act→World→Prop}
theorem app_st (hgd:o.guard=none) (s x:Operand) (ho:o.op=.call { callee:=.builtin .append,args:=#[s,x],argTypes:=#[24,24] })
  {g n c:Nat} {L:List St} (hs:a.eval s=.slice (some ⟨g,0,none⟩) n c) (hown:RowS w g n c L) {b off m k:Nat} (M:List St) (hx:a.eval x=.slice (some ⟨b,off,none⟩) m k) (hl:M.length=m)
  (hc:∀ j u,(ints (flatS M))[j]? = some u→w.cell? ⟨b,off + j,none⟩=some u) (hb:n + m≤1000000)
  (h:∀ g' c' w',RowS w' g' (n + m) c' (L ++ M)→w.grownBy w' (some g)→(g'=g∨g'=w.heap.size)→wpList Tryz.prog ops Q rest (a.put o.dst (.slice (some ⟨g',0,none⟩) (n + m) c')) w'):wpList Tryz.prog ops Q (o :: rest) a w :=
 wpList_apps hgd s x _ ho _ _ 6 48 Tryz.underlying24 infoSt rfl (by decide) hs hown ⟨b,off,none⟩ m k (ints (flatS M)) hx (by rw [ints_length,flatS_length,hl]) (cells_add hc) (ints_one _) (by omega) (by decide)
  fun g' c' w' h1 h2 h3=>h g' c' w' (by show Row _ _ _ _ _ _ _; rw [flatS_append,ints_app]; exact h1) h2 h3
theorem app_int (hgd:o.guard=none) (s x:Operand) (ho:o.op=.call { callee:=.builtin .append,args:=#[s,x],argTypes:=#[30,30] })
  {g n c:Nat} {L:List Int} (hs:a.eval s=.slice (some ⟨g,0,none⟩) n c) (hown:RowI w g n c L) {b off m k:Nat} (M:List Int) (hx:a.eval x=.slice (some ⟨b,off,none⟩) m k) (hl:M.length=m)
  (hc:∀ j u,(ints M)[j]? = some u→w.cell? ⟨b,off + j,none⟩=some u) (hb:n + m≤1000000)
  (h:∀ g' c' w',RowI w' g' (n + m) c' (L ++ M)→w.grownBy w' (some g)→(g'=g∨g'=w.heap.size)→wpList Tryz.prog ops Q rest (a.put o.dst (.slice (some ⟨g',0,none⟩) (n + m) c')) w'):wpList Tryz.prog ops Q (o :: rest) a w :=
 wpList_apps hgd s x _ ho _ _ 1 8 Tryz.underlying30 infoI rfl (by decide) hs hown ⟨b,off,none⟩ m k (ints M) hx (by rw [ints_length,hl,Nat.mul_one]) (cells_add hc) (ints_one _) (by omega) (by decide)
  fun g' c' w' h1 h2 h3=>h g' c' w' (by show Row _ _ _ _ _ _ _; rw [ints_app]; exact h1) h2 h3
end
theorem top_cells (w:World) (cs:List Value) (t:TypeId):∀ (j:Nat) (u:Value),cs[j]? = some u→(w.alloc (.cells cs.toArray t)).cell? ⟨w.heap.size,0 + j,none⟩=some u:=fun j u hu=>by
 have hb:Blk (w.alloc (.cells cs.toArray t)) w.heap.size t cs.toArray:=Blk.new rfl
 rw [Nat.zero_add,hb.cell j]
 simpa using hu
theorem row_cells {w:World} {g e size n c:Nat} {xs:List Value} (h:Row w g e size n c xs):∀ (j:Nat) (u:Value),xs[j]? = some u→w.cell? ⟨g,0 + j,none⟩=some u:=fun j u hu=>by
 rw [Nat.zero_add]
 exact h.cell hu
end Go.Proofs.YtihbaieiempjeaaGreat
