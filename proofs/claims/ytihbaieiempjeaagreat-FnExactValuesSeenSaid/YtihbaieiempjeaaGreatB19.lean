/- Lemmas of the proof: PubK, PubM, Sem, Gev. -/
import Derived.Test.YtihbaieiempjeaaGreatB0
import Derived.Test.YtihbaieiempjeaaGreatB15
import Derived.Test.YtihbaieiempjeaaGreatB18
import Derived.Test.YtihbaieiempjeaaGreatB10
import Derived.Test.YtihbaieiempjeaaGreatB2
namespace Go.Proofs.YtihbaieiempjeaaGreat
open Go.RowKit
abbrev TPb:Nat:=80
theorem sLabels (A:Option Addr) (c:Nat) (xs:List Int) (n:Int) (w:World) (hx:∀ x∈xs,labelB x=true) (hc:Cells w w.heap.size A (ints xs)) (hn:xs.length≤1000000000) :
  Calls Tryz.prog 146 #[.slice A xs.length c,.int .i64 n] w fun e w'=>e=.returned (.bool ((xs.length:Int) == n))∧w=w':=by
 go_enter Tryz.func146,Tryz.ntmps146
 go_wp2
 go_loop [5] (fun i=>∃ j:Nat,j≤xs.length∧i=.int .i64 j) (fun i=>xs.length - (intOf i).toNat)
 case atStart=>exact ⟨0,Nat.zero_le _,rfl⟩
 case round =>
  obtain ⟨j,hj,rfl⟩:=hrel
  by_cases hlt:j < xs.length
  ·obtain ⟨x,hx1⟩:∃ x,xs[j]? = some x:=⟨_,List.getElem?_eq_getElem hlt⟩
   have hb:=hx x (List.mem_of_getElem? hx1)
   obtain ⟨b,off,rfl,hB,hcl⟩:=hc (by rw [ints_length]; omega)
   have hcell:w.cell? ⟨b,off + j,none⟩=some (.int .i64 x):=hcl j _ (ints_get hx1)
   clear hcl hc hx hx1
   go_wp2_with (go_at_call 180; refine (sIsLabel _ _).mono ?_; rintro e w' ⟨rfl,rfl⟩)
   go_round
   case rel=>exact ⟨j + 1,by omega,by go_num⟩
   case measure=>simp [intOf]; omega
  ·obtain rfl:j=xs.length:=by omega
   go_wp2
   go_ret
   exact ⟨ret_bool (by first | rfl | simp),rfl⟩
structure GarOk (gs:List Gt) (os:List Int) (d:Int) (zs ts:List Int):Prop where
 c:circB gs os=true
 m:os.length≤1000000
 dl:labelB d=true
 o:bits .and .i64 d 1=1
 z:∀ x∈zs,labelB x=true
 t:∀ x∈ts,labelB x=true
 zn:zs.length=gs.length
 tn:ts.length=2 * cntG gs 4
set_option linter.unusedVariables false in
set_option maxRecDepth 100000 in
set_option maxHeartbeats 3200000 in
theorem iGarbledOk (G O Z T:Option Addr) (cg co cz ct:Nat) (gs:List Gt) (os:List Int) (d:Int) (zs ts:List Int) (w:World) (hg:Cells w w.heap.size G (ints (flatG gs))) (ho:Cells w w.heap.size O (ints os)) (hz:Cells w w.heap.size Z (ints zs)) (ht:Cells w w.heap.size T (ints ts)) (h:GarOk gs os d zs ts) :
  Calls Tryz.prog 107 #[.agg #[.slice G gs.length cg,.slice O os.length co],.agg #[.int .i64 d,.slice Z zs.length cz,.slice T ts.length ct]] w fun e w'=>e=.returned (.bool true)∧Below w.heap.size w w':=by
 obtain ⟨hn6,hgv,hov⟩:=circ_parts h.c
 have HC:=hid (And.intro hg (And.intro ho (And.intro hz ht)))
 have HK:=hid (fun w hg ho=>iCircOk G O cg co gs os w hg ho (by omega) h.m)
 rw [h.c] at HK
 have hcn:=cntG_le gs 4
 have HN:=hid (fun w hg=>iCount G O cg co gs os 4 w hg (by omega))
 have hzn:=h.zn
 have htn:=h.tn
 have HZ:=hid (fun w hc=>iLabels Z cz zs w (fun j x hx=>h.z x (List.mem_of_getElem? hx)) hc (by omega))
 have HT:=hid (fun w hc=>iLabels T ct ts w (fun j x hx=>h.t x (List.mem_of_getElem? hx)) hc (by omega))
 have hd1:=h.dl
 have hd2:=h.o
 have e1:((zs.length:Int) == (gs.length:Int))=true:=by rw [hzn]; simp
 obtain ⟨k,hk⟩:∃ k,cntG gs 4=k:=⟨_,rfl⟩
 rw [hk] at HN htn hcn
 have e2:((ts.length:Int) == 2 * (k:Int))=true:=by rw [htn]; simp
 have hk6:(k:Int)≤6000:=by omega
 clear hg ho hz ht h hzn htn hgv hov hk
 go_enter Tryz.func107,Tryz.ntmps107
 go_wp2_with fail
 apply wp_forget2 (b0:=w.heap.size) (b1:=w.heap.size + 1) (w0:=w) (B:=w.heap.size)
 focus (exact blkBy)
 focus (exact blkBy)
 focus (exact belBy)
 intro W1 k0 k1 hbW
 have c0:=k0.cell
 have f0:=k0.frozen
 have z0:=k0.lt
 have c1:=k1.cell
 have f1:=k1.frozen
 have z1:=k1.lt
 have HCW:=hid (And.intro ((HC.out.1.below hbW).more hbW.size) (And.intro ((HC.out.2.1.below hbW).more hbW.size) (And.intro ((HC.out.2.2.1.below hbW).more hbW.size) ((HC.out.2.2.2.below hbW).more hbW.size))))
 have Q1:=hid (fun x:Later W1=>HCW.out.1.step x.below)
 have Q2:=hid (fun x:Later W1=>HCW.out.2.1.step x.below)
 have Q3:=hid (fun x:Later W1=>HCW.out.2.2.1.step x.below)
 have Q4:=hid (fun x:Later W1=>HCW.out.2.2.2.step x.below)
 have q0:=fun (x:Later W1) (o:Nat)=>(k0.below x.below k0.lt).cell o
 have q1:=fun (x:Later W1) (o:Nat)=>(k1.below x.below k1.lt).cell o
 refine wp_region_later (by kernel_rfl) (by kernel_rfl) ?_
 repeat (go_big_quiet_step (first | (go_at_call 105; with_reducible exact Calls.later (HK.out _ (Q1.out _) (Q2.out _))) | (go_at_call 172; with_reducible exact Calls.later_same (iIsLabel _ _)) | (go_at_call 110; with_reducible exact Calls.later_same (HZ.out _ (Q3.out _))) | (go_at_call 110; with_reducible exact Calls.later_same (HT.out _ (Q4.out _))) | (go_at_call 173; with_reducible exact Calls.later (HN.out _ (Q1.out _)))))
 refine wpQuiet_nil ?_
 rintro _ ⟨⟨w1,hb1⟩,rfl⟩
 try dsimp only
 obtain ⟨z1a,c1a,f1a,k1a⟩:=bfact hb1 k0
 obtain ⟨z1b,c1b,f1b,k1b⟩:=bfact hb1 k1
 clear q0 q1
 go_wp2
 go_ret
 exact ⟨rfl,hbW.trans (hb1.mono hbW.size)⟩
set_option linter.unusedVariables false in
set_option maxRecDepth 100000 in
set_option maxHeartbeats 3200000 in
theorem sGarbledOk (G O Z T:Option Addr) (cg co cz ct:Nat) (gs:List Gt) (os:List Int) (d:Int) (zs ts:List Int) (w:World) (hg:Cells w w.heap.size G (ints (flatG gs))) (ho:Cells w w.heap.size O (ints os)) (hz:Cells w w.heap.size Z (ints zs)) (ht:Cells w w.heap.size T (ints ts)) (h:GarOk gs os d zs ts) :
  Calls Tryz.prog 177 #[.agg #[.slice G gs.length cg,.slice O os.length co],.agg #[.int .i64 d,.slice Z zs.length cz,.slice T ts.length ct]] w fun e w'=>e=.returned (.bool true)∧Below w.heap.size w w':=by
 obtain ⟨hn6,hgv,hov⟩:=circ_parts h.c
 have HC:=hid (And.intro hg (And.intro ho (And.intro hz ht)))
 have HK:=hid (fun w hg ho=>sCircOk G O cg co gs os w hg ho (by omega) h.m)
 rw [h.c] at HK
 have hcn:=cntG_le gs 4
 have HN:=hid (fun w hg=>sCount G O cg co gs os 4 w hg (by omega))
 have hzn:=h.zn
 have htn:=h.tn
 have HZ:=hid (fun w hc=>sLabels Z cz zs (gs.length:Int) w h.z hc (by omega))
 have e1:((zs.length:Int) == (gs.length:Int))=true:=by rw [hzn]; simp
 rw [e1] at HZ
 obtain ⟨k,hk⟩:∃ k,cntG gs 4=k:=⟨_,rfl⟩
 rw [hk] at HN htn hcn
 have e2:((ts.length:Int) == 2 * (k:Int))=true:=by rw [htn]; simp
 have HT:=hid (fun w hc=>sLabels T ct ts (2 * (k:Int)) w h.t hc (by omega))
 rw [e2] at HT
 have hd1:=h.dl
 have hd2:=h.o
 have hk6:(k:Int)≤6000:=by omega
 clear hg ho hz ht h hzn htn hgv hov hk e1 e2
 go_enter Tryz.func177,Tryz.ntmps177
 go_wp2_with fail
 apply wp_forget2 (b0:=w.heap.size) (b1:=w.heap.size + 1) (w0:=w) (B:=w.heap.size)
 focus (exact blkBy)
 focus (exact blkBy)
 focus (exact belBy)
 intro W1 k0 k1 hbW
 have c0:=k0.cell
 have f0:=k0.frozen
 have z0:=k0.lt
 have c1:=k1.cell
 have f1:=k1.frozen
 have z1:=k1.lt
 have HCW:=hid (And.intro ((HC.out.1.below hbW).more hbW.size) (And.intro ((HC.out.2.1.below hbW).more hbW.size) (And.intro ((HC.out.2.2.1.below hbW).more hbW.size) ((HC.out.2.2.2.below hbW).more hbW.size))))
 have Q1:=hid (fun x:Later W1=>HCW.out.1.step x.below)
 have Q2:=hid (fun x:Later W1=>HCW.out.2.1.step x.below)
 have Q3:=hid (fun x:Later W1=>HCW.out.2.2.1.step x.below)
 have Q4:=hid (fun x:Later W1=>HCW.out.2.2.2.step x.below)
 have q0:=fun (x:Later W1) (o:Nat)=>(k0.below x.below k0.lt).cell o
 have q1:=fun (x:Later W1) (o:Nat)=>(k1.below x.below k1.lt).cell o
 refine wp_region_later (by kernel_rfl) (by kernel_rfl) ?_
 repeat (go_big_quiet_step (first | (go_at_call 62; with_reducible exact Calls.later (HK.out _ (Q1.out _) (Q2.out _))) | (go_at_call 180; with_reducible exact Calls.later_same (sIsLabel _ _)) | (go_at_call 146; with_reducible exact Calls.later_same (HZ.out _ (Q3.out _))) | (go_at_call 146; with_reducible exact Calls.later_same (HT.out _ (Q4.out _))) | (go_at_call 183; with_reducible exact Calls.later (HN.out _ (Q1.out _)))))
 refine wpQuiet_nil ?_
 rintro _ ⟨⟨w1,hb1⟩,rfl⟩
 try dsimp only
 obtain ⟨z1a,c1a,f1a,k1a⟩:=bfact hb1 k0
 obtain ⟨z1b,c1b,f1b,k1b⟩:=bfact hb1 k1
 clear q0 q1
 go_wp2
 go_ret
 exact ⟨rfl,hbW.trans (hb1.mono hbW.size)⟩
structure PubOk (gs:List Gt) (os ts cs ds:List Int):Prop where
 c:circB gs os=true
 m:os.length≤1000000
 t:∀ x∈ts,labelB x=true
 k:∀ x∈cs,labelB x=true
 d:bitsB ds=true
 tn:ts.length=2 * cntG gs 4
 kn:cs.length=cntG gs 2
 dn:ds.length=os.length
set_option linter.unusedVariables false in
set_option maxRecDepth 100000 in
set_option maxHeartbeats 3200000 in
theorem iPublicOk (G O T K D:Option Addr) (cg co ct ck cd:Nat) (gs:List Gt) (os ts cs ds:List Int) (w:World) (hg:Cells w w.heap.size G (ints (flatG gs))) (ho:Cells w w.heap.size O (ints os)) (ht:Cells w w.heap.size T (ints ts)) (hc:Cells w w.heap.size K (ints cs)) (hd:Cells w w.heap.size D (ints ds)) (h:PubOk gs os ts cs ds) :
  Calls Tryz.prog 109 #[.agg #[.slice G gs.length cg,.slice O os.length co],.agg #[.slice T ts.length ct,.slice K cs.length ck,.slice D ds.length cd]] w fun e w'=>e=.returned (.bool true)∧Below w.heap.size w w':=by
 obtain ⟨hn6,hgv,hov⟩:=circ_parts h.c
 have HC:=hid (And.intro hg (And.intro ho (And.intro ht (And.intro hc hd))))
 have HK:=hid (fun w hg ho=>iCircOk G O cg co gs os w hg ho (by omega) h.m)
 rw [h.c] at HK
 have hcn:=cntG_le gs 4
 have hcn2:=cntG_le gs 2
 have HN:=hid (fun w hg=>iCount G O cg co gs os 4 w hg (by omega))
 have HN2:=hid (fun w hg=>iCount G O cg co gs os 2 w hg (by omega))
 have htn:=h.tn
 have hkn:=h.kn
 have hdn:=h.dn
 have hm:=h.m
 have HT:=hid (fun w hc=>iLabels T ct ts w (fun j x hx=>h.t x (List.mem_of_getElem? hx)) hc (by omega))
 have HQ:=hid (fun w hc=>iLabels K ck cs w (fun j x hx=>h.k x (List.mem_of_getElem? hx)) hc (by omega))
 have HD:=hid (fun w hc=>iBits D cd ds w hc (by omega))
 rw [h.d] at HD
 obtain ⟨k,hk⟩:∃ k,cntG gs 4=k:=⟨_,rfl⟩
 rw [hk] at HN htn hcn
 obtain ⟨k2,hk2⟩:∃ k,cntG gs 2=k:=⟨_,rfl⟩
 rw [hk2] at HN2 hkn hcn2
 have e2:((ts.length:Int) == 2 * (k:Int))=true:=by rw [htn]; simp
 have e3:((cs.length:Int) == (k2:Int))=true:=by rw [hkn]; simp
 have e4:((ds.length:Int) == (os.length:Int))=true:=by rw [hdn]; simp
 have hk6:(k:Int)≤6000:=by omega
 clear hg ho ht hc hd h htn hkn hdn hm hgv hov hk hk2
 go_enter Tryz.func109,Tryz.ntmps109
 go_wp2_with fail
 apply wp_forget2 (b0:=w.heap.size) (b1:=w.heap.size + 1) (w0:=w) (B:=w.heap.size)
 focus (exact blkBy)
 focus (exact blkBy)
 focus (exact belBy)
 intro W1 k0 k1 hbW
 have c0:=k0.cell
 have f0:=k0.frozen
 have z0:=k0.lt
 have c1:=k1.cell
 have f1:=k1.frozen
 have z1:=k1.lt
 have HCW:=hid (And.intro ((HC.out.1.below hbW).more hbW.size) (And.intro ((HC.out.2.1.below hbW).more hbW.size) (And.intro ((HC.out.2.2.1.below hbW).more hbW.size) (And.intro ((HC.out.2.2.2.1.below hbW).more hbW.size) ((HC.out.2.2.2.2.below hbW).more hbW.size)))))
 have Q1:=hid (fun x:Later W1=>HCW.out.1.step x.below)
 have Q2:=hid (fun x:Later W1=>HCW.out.2.1.step x.below)
 have Q3:=hid (fun x:Later W1=>HCW.out.2.2.1.step x.below)
 have Q4:=hid (fun x:Later W1=>HCW.out.2.2.2.1.step x.below)
 have Q5:=hid (fun x:Later W1=>HCW.out.2.2.2.2.step x.below)
 have q0:=fun (x:Later W1) (o:Nat)=>(k0.below x.below k0.lt).cell o
 have q1:=fun (x:Later W1) (o:Nat)=>(k1.below x.below k1.lt).cell o
 refine wp_region_later (by kernel_rfl) (by kernel_rfl) ?_
 repeat (go_big_quiet_step (first | (go_at_call 105; with_reducible exact Calls.later (HK.out _ (Q1.out _) (Q2.out _))) | (go_at_call 93; with_reducible exact Calls.later_same (HD.out _ (Q5.out _))) | (go_at_call 110; with_reducible exact Calls.later_same (HT.out _ (Q3.out _))) | (go_at_call 110; with_reducible exact Calls.later_same (HQ.out _ (Q4.out _))) | (go_at_call 173; with_reducible exact Calls.later (HN.out _ (Q1.out _))) | (go_at_call 173; with_reducible exact Calls.later (HN2.out _ (Q1.out _)))))
 refine wpQuiet_nil ?_
 rintro _ ⟨⟨w1,hb1⟩,rfl⟩
 try dsimp only
 obtain ⟨z1a,c1a,f1a,k1a⟩:=bfact hb1 k0
 obtain ⟨z1b,c1b,f1b,k1b⟩:=bfact hb1 k1
 clear q0 q1
 go_wp2
 go_ret
 exact ⟨rfl,hbW.trans (hb1.mono hbW.size)⟩
set_option linter.unusedVariables false in
set_option maxRecDepth 100000 in
set_option maxHeartbeats 3200000 in
theorem sPublicOk (G O T K D:Option Addr) (cg co ct ck cd:Nat) (gs:List Gt) (os ts cs ds:List Int) (w:World) (hg:Cells w w.heap.size G (ints (flatG gs))) (ho:Cells w w.heap.size O (ints os)) (ht:Cells w w.heap.size T (ints ts)) (hc:Cells w w.heap.size K (ints cs)) (hd:Cells w w.heap.size D (ints ds)) (h:PubOk gs os ts cs ds) :
  Calls Tryz.prog 145 #[.agg #[.slice G gs.length cg,.slice O os.length co],.agg #[.slice T ts.length ct,.slice K cs.length ck,.slice D ds.length cd]] w fun e w'=>e=.returned (.bool true)∧Below w.heap.size w w':=by
 obtain ⟨hn6,hgv,hov⟩:=circ_parts h.c
 have HC:=hid (And.intro hg (And.intro ho (And.intro ht (And.intro hc hd))))
 have HK:=hid (fun w hg ho=>sCircOk G O cg co gs os w hg ho (by omega) h.m)
 rw [h.c] at HK
 have hcn:=cntG_le gs 4
 have hcn2:=cntG_le gs 2
 have HN:=hid (fun w hg=>sCount G O cg co gs os 4 w hg (by omega))
 have HN2:=hid (fun w hg=>sCount G O cg co gs os 2 w hg (by omega))
 have htn:=h.tn
 have hkn:=h.kn
 have hdn:=h.dn
 have hm:=h.m
 obtain ⟨k,hk⟩:∃ k,cntG gs 4=k:=⟨_,rfl⟩
 rw [hk] at HN htn hcn
 obtain ⟨k2,hk2⟩:∃ k,cntG gs 2=k:=⟨_,rfl⟩
 rw [hk2] at HN2 hkn hcn2
 have e2:((ts.length:Int) == 2 * (k:Int))=true:=by rw [htn]; simp
 have e3:((cs.length:Int) == (k2:Int))=true:=by rw [hkn]; simp
 have e4:(bitsB ds && ((ds.length:Int) == (os.length:Int)))=true:=by rw [hdn,h.d]; simp
 have HT:=hid (fun w hc=>sLabels T ct ts (2 * (k:Int)) w h.t hc (by omega))
 rw [e2] at HT
 have HQ:=hid (fun w hc=>sLabels K ck cs (k2:Int) w h.k hc (by omega))
 rw [e3] at HQ
 have HD:=hid (fun w hc=>sBits D cd ds (os.length:Int) w hc (by omega))
 rw [e4] at HD
 have hk6:(k:Int)≤6000:=by omega
 clear hg ho ht hc hd h htn hkn hdn hm hgv hov hk hk2 e2 e3 e4
 go_enter Tryz.func145,Tryz.ntmps145
 go_wp2_with fail
 apply wp_forget2 (b0:=w.heap.size) (b1:=w.heap.size + 1) (w0:=w) (B:=w.heap.size)
 focus (exact blkBy)
 focus (exact blkBy)
 focus (exact belBy)
 intro W1 k0 k1 hbW
 have c0:=k0.cell
 have f0:=k0.frozen
 have z0:=k0.lt
 have c1:=k1.cell
 have f1:=k1.frozen
 have z1:=k1.lt
 have HCW:=hid (And.intro ((HC.out.1.below hbW).more hbW.size) (And.intro ((HC.out.2.1.below hbW).more hbW.size) (And.intro ((HC.out.2.2.1.below hbW).more hbW.size) (And.intro ((HC.out.2.2.2.1.below hbW).more hbW.size) ((HC.out.2.2.2.2.below hbW).more hbW.size)))))
 have Q1:=hid (fun x:Later W1=>HCW.out.1.step x.below)
 have Q2:=hid (fun x:Later W1=>HCW.out.2.1.step x.below)
 have Q3:=hid (fun x:Later W1=>HCW.out.2.2.1.step x.below)
 have Q4:=hid (fun x:Later W1=>HCW.out.2.2.2.1.step x.below)
 have Q5:=hid (fun x:Later W1=>HCW.out.2.2.2.2.step x.below)
 have q0:=fun (x:Later W1) (o:Nat)=>(k0.below x.below k0.lt).cell o
 have q1:=fun (x:Later W1) (o:Nat)=>(k1.below x.below k1.lt).cell o
 refine wp_region_later (by kernel_rfl) (by kernel_rfl) ?_
 repeat (go_big_quiet_step (first | (go_at_call 62; with_reducible exact Calls.later (HK.out _ (Q1.out _) (Q2.out _))) | (go_at_call 63; with_reducible exact Calls.later_same (HD.out _ (Q5.out _))) | (go_at_call 146; with_reducible exact Calls.later_same (HT.out _ (Q3.out _))) | (go_at_call 146; with_reducible exact Calls.later_same (HQ.out _ (Q4.out _))) | (go_at_call 183; with_reducible exact Calls.later (HN.out _ (Q1.out _))) | (go_at_call 183; with_reducible exact Calls.later (HN2.out _ (Q1.out _)))))
 refine wpQuiet_nil ?_
 rintro _ ⟨⟨w1,hb1⟩,rfl⟩
 try dsimp only
 obtain ⟨z1a,c1a,f1a,k1a⟩:=bfact hb1 k0
 obtain ⟨z1b,c1b,f1b,k1b⟩:=bfact hb1 k1
 clear q0 q1
 go_wp2
 go_ret
 exact ⟨rfl,hbW.trans (hb1.mono hbW.size)⟩
open Go.RowKit
theorem blk_ne {w:World} {b c t u:Nat} {cs ds:Array Value} (h:Blk w b t cs) (k:Blk w c u ds) (hne:t≠u):b≠c:=fun e=>by
 subst e
 unfold Blk at h k
 rw [h] at k
 injection k with k
 injection k with _ k _
 exact hne k
structure PubM (w:World) (bc bg br bp:Nat) (cs gc rs:Array Value) (ts ks ds:List Int) (T:Option Addr) (ct:Nat) (K:Option Addr) (kk:Nat) (D:Option Addr) (kd:Nat) (wr:World):Prop where
 c:Blk wr bc TS cs
 g:Blk wr bg TGb gc
 r:Blk wr br TPb rs
 p:Blk wr bp TPb #[.slice T ts.length ct,.slice K ks.length kk,.slice D ds.length kd]
 t:wr.ownsRow w.heap.size 3 1 (.slice T ts.length ct) ts.length (ints ts)
 k:wr.ownsRow w.heap.size 3 1 (.slice K ks.length kk) ks.length (ints ks)
 d:wr.ownsRow w.heap.size 3 1 (.slice D ds.length kd) ds.length (ints ds)
 tk:∀ q,(Value.slice T ts.length ct).ownBlock=some q→(Value.slice K ks.length kk).ownBlock=some q→False
 td:∀ q,(Value.slice T ts.length ct).ownBlock=some q→(Value.slice D ds.length kd).ownBlock=some q→False
 kd:∀ q,(Value.slice K ks.length kk).ownBlock=some q→(Value.slice D ds.length kd).ownBlock=some q→False
 bl:Below w.heap.size w wr
 lp:w.heap.size≤bp
 hr:br≠bp
section
variable {w:World} {bc bg br bp:Nat} {cs gc rs:Array Value} {ts ks ds:List Int} {T:Option Addr} {ct:Nat} {K:Option Addr} {kk:Nat} {D:Option Addr} {kd:Nat} {wr w':World}
theorem PubM.below (h:PubM w bc bg br bp cs gc rs ts ks ds T ct K kk D kd wr) (hb:Below wr.heap.size wr w'):PubM w bc bg br bp cs gc rs ts ks ds T ct K kk D kd w' :=
 ⟨h.c.past hb,h.g.past hb,h.r.past hb,h.p.past hb,own_below h.t hb,own_below h.k hb,own_below h.d hb,h.tk,h.td,h.kd,h.bl.trans (hb.mono h.bl.size),h.lp,h.hr⟩
theorem PubM.con {v:Int} {A:Option Addr} {k':Nat} {w5 X:World} (h:PubM w bc bg br bp cs gc rs ts ks ds T ct K kk D kd wr) (hX:Below wr.heap.size wr X) (h1:w5.ownsRow w.heap.size 3 1 (.slice A (ks.length + 1) k') (ks.length + 1) (ints (ks ++ [v]))) (h2:X.grownBy w5 (Value.slice K ks.length kk).ownBlock)
  (h3:∀ q,(Value.slice A (ks.length + 1) k').ownBlock=some q→(Value.slice K ks.length kk).ownBlock=some q∨wr.heap.size≤q):PubM w bc bg br bp cs gc rs ts (ks ++ [v]) ds T ct A k' D kd (w5.setCell ⟨bp,1,none⟩ (.slice A (ks.length + 1) k')):=by
 have hl:(ks ++ [v]).length=ks.length + 1:=by simp
 have hsz:=h.bl.size
 have h2:=below_grown hX h2
 have c5:=gr_blk h2 h.c (own_ne_obj h.k h.c (by decide))
 have g5:=gr_blk h2 h.g (own_ne_obj h.k h.g (by decide))
 have p5:=gr_blk h2 h.p (own_ne_obj h.k h.p (by decide))
 have r5:=gr_blk h2 h.r (own_ne_obj h.k h.r (by decide))
 have o1:=gr_own h2 h.t (fun q p hq hp e=>by subst e; exact h.tk q hp hq)
 have o2:=gr_own h2 h.d (fun q p hq hp e=>by subst e; exact h.kd q hq hp)
 have b5:Below w.heap.size w w5:=gr_below h2 h.bl hsz (fun q hq=>by have:=(own_in h.k q hq).1; omega)
 have ts5:Touch [bp] w5 (w5.setCell ⟨bp,1,none⟩ (.slice A (ks.length + 1) k')):=(Touch.refl _ _).set_ _ _ (by simp)
 have hm:∀ q,q≠bp→q ∉ [bp]:=fun q hq=>by simp [hq]
 have hbc:bc≠bp:=blk_ne h.c h.p (by decide)
 have hbg:bg≠bp:=blk_ne h.g h.p (by decide)
 refine ⟨Blk.touch ts5 c5 (hm _ hbc),Blk.touch ts5 g5 (hm _ hbg),Blk.touch ts5 r5 (hm _ h.hr),?_,own_touch' ts5 o1 (fun q hq=>hm q (own_ne_obj o1 p5 (by decide) q hq)),?_,own_touch' ts5 o2 (fun q hq=>hm q (own_ne_obj o2 p5 (by decide) q hq)),?_,h.td,?_,ts5.below' b5 (fun i hi=>by simp at hi; have:=h.lp; omega) b5.size,h.lp,h.hr⟩
 ·rw [hl]
  exact p5.set_ 1 _
 ·rw [hl]
  exact own_touch' ts5 h1 (fun q hq=>hm q (own_ne_obj h1 p5 (by decide) q hq))
 ·intro q hq hp
  rw [hl] at hp
  rcases h3 q hp with h3 | h3
  ·exact h.tk _ hq h3
  ·have:=(own_in h.t q hq).2
   omega
 ·intro q hq hp
  rw [hl] at hq
  rcases h3 q hq with h3 | h3
  ·exact h.kd _ h3 hp
  ·have:=(own_in h.d q hp).2
   omega
theorem PubM.dec {v:Int} {A:Option Addr} {k':Nat} {w5 X:World} (h:PubM w bc bg br bp cs gc rs ts ks ds T ct K kk D kd wr) (hX:Below wr.heap.size wr X) (h1:w5.ownsRow w.heap.size 3 1 (.slice A (ds.length + 1) k') (ds.length + 1) (ints (ds ++ [v]))) (h2:X.grownBy w5 (Value.slice D ds.length kd).ownBlock)
  (h3:∀ q,(Value.slice A (ds.length + 1) k').ownBlock=some q→(Value.slice D ds.length kd).ownBlock=some q∨wr.heap.size≤q):PubM w bc bg br bp cs gc rs ts ks (ds ++ [v]) T ct K kk A k' (w5.setCell ⟨bp,2,none⟩ (.slice A (ds.length + 1) k')):=by
 have hl:(ds ++ [v]).length=ds.length + 1:=by simp
 have hsz:=h.bl.size
 have h2:=below_grown hX h2
 have c5:=gr_blk h2 h.c (own_ne_obj h.d h.c (by decide))
 have g5:=gr_blk h2 h.g (own_ne_obj h.d h.g (by decide))
 have p5:=gr_blk h2 h.p (own_ne_obj h.d h.p (by decide))
 have r5:=gr_blk h2 h.r (own_ne_obj h.d h.r (by decide))
 have o1:=gr_own h2 h.t (fun q p hq hp e=>by subst e; exact h.td q hp hq)
 have o2:=gr_own h2 h.k (fun q p hq hp e=>by subst e; exact h.kd q hp hq)
 have b5:Below w.heap.size w w5:=gr_below h2 h.bl hsz (fun q hq=>by have:=(own_in h.d q hq).1; omega)
 have ts5:Touch [bp] w5 (w5.setCell ⟨bp,2,none⟩ (.slice A (ds.length + 1) k')):=(Touch.refl _ _).set_ _ _ (by simp)
 have hm:∀ q,q≠bp→q ∉ [bp]:=fun q hq=>by simp [hq]
 have hbc:bc≠bp:=blk_ne h.c h.p (by decide)
 have hbg:bg≠bp:=blk_ne h.g h.p (by decide)
 refine ⟨Blk.touch ts5 c5 (hm _ hbc),Blk.touch ts5 g5 (hm _ hbg),Blk.touch ts5 r5 (hm _ h.hr),?_,own_touch' ts5 o1 (fun q hq=>hm q (own_ne_obj o1 p5 (by decide) q hq)),own_touch' ts5 o2 (fun q hq=>hm q (own_ne_obj o2 p5 (by decide) q hq)),?_,h.tk,?_,?_,ts5.below' b5 (fun i hi=>by simp at hi; have:=h.lp; omega) b5.size,h.lp,h.hr⟩
 ·rw [hl]
  exact p5.set_ 2 _
 ·rw [hl]
  exact own_touch' ts5 h1 (fun q hq=>hm q (own_ne_obj h1 p5 (by decide) q hq))
 ·intro q hq hp
  rw [hl] at hp
  rcases h3 q hp with h3 | h3
  ·exact h.td _ hq h3
  ·have:=(own_in h.t q hq).2
   omega
 ·intro q hq hp
  rw [hl] at hp
  rcases h3 q hp with h3 | h3
  ·exact h.kd _ hq h3
  ·have:=(own_in h.k q hq).2
   omega
end
def GivesP (w:World) (ts ks ds:List Int) (e:Ending) (w':World):Prop :=
 ∃ T ct K kk D kd,e=.returned (.tuple #[.agg #[.slice T ts.length ct,.slice K ks.length kk,.slice D ds.length kd],.bool true])∧w'.ownsRow w.heap.size 3 1 (.slice T ts.length ct) ts.length (ints ts) ∧
  w'.ownsRow w.heap.size 3 1 (.slice K ks.length kk) ks.length (ints ks)∧w'.ownsRow w.heap.size 3 1 (.slice D ds.length kd) ds.length (ints ds)∧Below w.heap.size w w'
theorem PubM.give {w:World} {bc bg br bp:Nat} {cs gc rs:Array Value} {ts ks ds:List Int} {T:Option Addr} {ct:Nat} {K:Option Addr} {kk:Nat} {D:Option Addr} {kd:Nat} {wr w5:World} (h:PubM w bc bg br bp cs gc rs ts ks ds T ct K kk D kd wr) (ht:Touch [br] wr w5) (hb:w.heap.size≤br) :
  GivesP w ts ks ds (.returned (.tuple #[.agg #[.slice T ts.length ct,.slice K ks.length kk,.slice D ds.length kd],.bool true])) w5:=by
 have hm:∀ q,q≠br→q ∉ [br]:=fun q hq=>by simp [hq]
 exact ⟨T,ct,K,kk,D,kd,rfl,own_touch' ht h.t (fun q hq=>hm q (own_ne_obj h.t h.r (by decide) q hq)),own_touch' ht h.k (fun q hq=>hm q (own_ne_obj h.k h.r (by decide) q hq)),own_touch' ht h.d (fun q hq=>hm q (own_ne_obj h.d h.r (by decide) q hq)),
  ht.below' h.bl (fun i hi=>by simp at hi; omega) h.bl.size⟩
open Go.RowKit
def gval (B vs:List Int) (g:Gt):Int :=
 if g.k=1 then B.getD g.a.toNat 0
 else if g.k=2 then g.a
 else if g.k=3 then (vs.getD g.a.toNat 0 + vs.getD g.b.toNat 0) % 2
 else if g.k=4 then vs.getD g.a.toNat 0 * vs.getD g.b.toNat 0
 else 1 - vs.getD g.a.toNat 0
def ev (B:List Int) (gs:List Gt):List Int:=gs.foldl (fun vs g=>vs ++ [gval B vs g]) []
def V (B:List Int) (gs:List Gt) (w:Int):Int:=(ev B gs).getD w.toNat 0
def Bit (x:Int):Prop:=x=0∨x=1
open Go.RowKit
open Go.RowKit
open Go.RowKit
open Go.RowKit
def bits4 (n:Int):List Int:=[n % 2,n / 2 % 2,n / 4 % 2,n / 8 % 2]
def inBits (ins:List (List Int)):List Int:=(ins.flatMap fun l=>l.flatMap bits4)
def insB (ins:List (List Int)):Bool:=decide (ins.length=5) && ins.all fun l=>decide (l.length=4) && l.all fun n=>inB n 0 15
theorem list4 {l:List Int} (h:l.length=4):∃ a b c d,l=[a,b,c,d]:=by
 match l,h with
 | [a,b,c,d],_=>exact ⟨a,b,c,d,rfl⟩
theorem ins_parts {ins:List (List Int)} (h:insB ins=true):∃ a b c d e,ins=[a,b,c,d,e]∧∀ l∈ins,l.length=4∧∀ n∈l,0≤n∧n≤15:=by
 unfold insB at h
 rw [Bool.and_eq_true,decide_eq_true_eq] at h
 obtain ⟨h1,h2⟩:=h
 match ins,h1 with
 | [a,b,c,d,e],_ =>
  refine ⟨a,b,c,d,e,rfl,fun l hl=>?_⟩
  have:=List.all_eq_true.1 h2 l hl
  rw [Bool.and_eq_true,decide_eq_true_eq] at this
  exact ⟨this.1,fun n hn=>inB_iff.1 (List.all_eq_true.1 this.2 n hn)⟩
theorem inBits_bit {ins:List (List Int)}:∀ x∈inBits ins,Bit x:=by
 intro x hx
 unfold inBits at hx
 obtain ⟨l,_,hx⟩:=List.mem_flatMap.1 hx
 obtain ⟨n,_,hx⟩:=List.mem_flatMap.1 hx
 simp [bits4] at hx
 unfold Bit
 omega
theorem inBits_len {ins:List (List Int)} (h:insB ins=true):(inBits ins).length=80:=by
 obtain ⟨a,b,c,d,e,rfl,hl⟩:=ins_parts h
 have:=fun l hl'=>(hl l hl').1
 simp at this
 obtain ⟨ha,hb,hc,hd,he⟩:=this
 obtain ⟨a0,a1,a2,a3,rfl⟩:=list4 ha
 obtain ⟨b0,b1,b2,b3,rfl⟩:=list4 hb
 obtain ⟨c0,c1,c2,c3,rfl⟩:=list4 hc
 obtain ⟨d0,d1,d2,d3,rfl⟩:=list4 hd
 obtain ⟨e0,e1,e2,e3,rfl⟩:=list4 he
 rfl
open Go.RowKit
def conOne (g:Gt):Nat:=if (g.k == 2)=true then 1 else 0
def conG (gs:List Gt):Nat:=(gs.filter (fun g=>g.k == 2)).length
theorem conG_snoc (gs:List Gt) (g:Gt):conG (gs ++ [g])=conG gs + conOne g:=by
 unfold conG conOne
 rw [List.filter_append,List.length_append]
 cases h:(g.k == 2) <;> simp [h]
def evA (a b g e n:Int):Int:=xorI (xorI (xorI (hashI a (2 * n)) (hashI b (2 * n + 1))) (ifI (oneI a) g)) (ifI (oneI b) (xorI e a))
def evW (T C ls out:List Int) (ka kc n:Nat) (g:Gt):Int :=
 if g.k=1 then ls.getD g.a.toNat 0
 else if g.k=2 then C.getD kc 0
 else if g.k=3 then xorI (out.getD g.a.toNat 0) (out.getD g.b.toNat 0)
 else if g.k=5 then out.getD g.a.toNat 0
 else evA (out.getD g.a.toNat 0) (out.getD g.b.toNat 0) (T.getD (2 * ka) 0) (T.getD (2 * ka + 1) 0) n
def evTo (T C ls:List Int) (gs:List Gt):Nat→List Int
 | 0=>[]
 | j + 1=>evTo T C ls gs j ++ [evW T C ls (evTo T C ls gs j) (andG (gs.take j)) (conG (gs.take j)) j (gs.getD j ⟨0,0,0⟩)]
theorem evTo_length (T C ls:List Int) (gs:List Gt):∀ j,(evTo T C ls gs j).length=j
 | 0=>rfl
 | j + 1=>by rw [evTo,List.length_append,evTo_length T C ls gs j]; rfl
def conP (d:Int) (zs:List Int) (n:Nat) (g:Gt):List Int:=if (g.k == 2)=true then [lblI (zs.getD n 0) d g.a] else []
def conTo (d:Int) (zs:List Int) (gs:List Gt):Nat→List Int
 | 0=>[]
 | j + 1=>conTo d zs gs j ++ conP d zs j (gs.getD j ⟨0,0,0⟩)
def decL (zs os:List Int):List Int:=os.map fun w=>oneI (zs.getD w.toNat 0)
theorem take_step {gs:List Gt} {j:Nat} (h:j < gs.length):gs.take (j + 1)=gs.take j ++ [gs.getD j ⟨0,0,0⟩]∧gs[j]? = some (gs.getD j ⟨0,0,0⟩):=by
 have e:gs.getD j ⟨0,0,0⟩=gs[j]:=by rw [List.getD_eq_getElem?_getD,List.getElem?_eq_getElem h]; rfl
 rw [e]
 exact ⟨List.take_succ_eq_append_getElem h,List.getElem?_eq_getElem h⟩
theorem conTo_length (d:Int) (zs:List Int) (gs:List Gt):∀ j,j≤gs.length→(conTo d zs gs j).length=conG (gs.take j)
 | 0,_=>rfl
 | j + 1,hj=>by
  rw [conTo,List.length_append,conTo_length d zs gs j (by omega),(take_step (by omega:j < gs.length)).1,conG_snoc]
  unfold conP conOne
  split <;> rfl
def lab (x:BitVec 16):Int:=((x.toNat:Nat):Int)
theorem lab_of {z:Int} (h:labelB z=true):∃ x,z=lab x:=by
 obtain ⟨h0,h1⟩:=labelB_iff.1 h
 obtain ⟨n,rfl⟩:=Int.eq_ofNat_of_zero_le h0
 refine ⟨BitVec.ofNat 16 n,?_⟩
 unfold lab
 rw [BitVec.toNat_ofNat,Nat.mod_eq_of_lt (by omega)]
theorem lab_one (x:BitVec 16):oneI (lab x)=((x.toNat % 2:Nat):Int):=by
 have hx:=x.isLt
 unfold oneI lab
 rw [show (1:Int)=((1:Nat):Int) from rfl,and_nat _ _ (by omega) (by omega),Nat.and_one_is_mod]
theorem delta_odd (s a:Int):oneI (deltaI s a)=1:=by
 unfold deltaI
 obtain ⟨a0,a1⟩:=labelB_iff.1 (below_label s a 65536)
 obtain ⟨x,hx⟩:=Int.eq_ofNat_of_zero_le a0
 rw [hx] at a1 ⊢
 have e:=or_nat x 1 (by omega) (by omega)
 have h:x ||| 1 < 2 ^ 16:=Nat.or_lt_two_pow (by omega) (by omega)
 rw [show (1:Int)=((1:Nat):Int) from rfl,e]
 unfold oneI
 rw [show (1:Int)=((1:Nat):Int) from rfl,and_nat _ _ (by omega) (by omega),Nat.and_one_is_mod]
 have:(x ||| 1) % 2=1:=by rw [Nat.or_mod_two_eq_one]; exact .inr rfl
 rw [this]
end Go.Proofs.YtihbaieiempjeaaGreat
