/- Lemmas of the proof: PubK, PubM, Sem, Gev, GarH. -/
import Derived.Test.YtihbaieiempjeaaGreatD0
import Derived.Test.YtihbaieiempjeaaGreatD15
import Derived.Test.YtihbaieiempjeaaGreatD18
import Derived.Test.YtihbaieiempjeaaGreatD10
import Derived.Test.YtihbaieiempjeaaGreatD4
namespace Go.Proofs.YtihbaieiempjeaaGreat
open Go.RowKit
abbrev TPb:Nat:=80
structure GarOk (gs:List Gt) (os:List Int) (d:Int) (zs ts:List Int):Prop where
 c:circB gs os=true
 m:os.length≤1000000
 dl:labelB d=true
 o:bits .and .i64 d 1=1
 z:∀ x∈zs,labelB x=true
 t:∀ x∈ts,labelB x=true
 zn:zs.length=gs.length
 tn:ts.length=2 * cntG gs 4
set_option linter.unusedVariables false in
set_option maxRecDepth 100000 in
set_option maxHeartbeats 3200000 in
theorem iGarbledOk (G O Z T:Option Addr) (cg co cz ct:Nat) (gs:List Gt) (os:List Int) (d:Int) (zs ts:List Int) (w:World) (hg:Cells w w.heap.size G (ints (flatG gs))) (ho:Cells w w.heap.size O (ints os)) (hz:Cells w w.heap.size Z (ints zs)) (ht:Cells w w.heap.size T (ints ts)) (h:GarOk gs os d zs ts) :
  Calls Tryz.prog 107 #[.agg #[.slice G gs.length cg,.slice O os.length co],.agg #[.int .i64 d,.slice Z zs.length cz,.slice T ts.length ct]] w fun e w'=>e=.returned (.bool true)∧Below w.heap.size w w':=by
 obtain ⟨hn6,hgv,hov⟩:=circ_parts h.c
 have HC:=hid (And.intro hg (And.intro ho (And.intro hz ht)))
 have HK:=hid (fun w hg ho=>iCircOk G O cg co gs os w hg ho (by omega) h.m)
 rw [h.c] at HK
 have hcn:=cntG_le gs 4
 have HN:=hid (fun w hg=>iCount G O cg co gs os 4 w hg (by omega))
 have hzn:=h.zn
 have htn:=h.tn
 have HZ:=hid (fun w hc=>iLabels Z cz zs w (fun j x hx=>h.z x (List.mem_of_getElem? hx)) hc (by omega))
 have HT:=hid (fun w hc=>iLabels T ct ts w (fun j x hx=>h.t x (List.mem_of_getElem? hx)) hc (by omega))
 have hd1:=h.dl
 have hd2:=h.o
 have e1:((zs.length:Int) == (gs.length:Int))=true:=by rw [hzn]; simp
 obtain ⟨k,hk⟩:∃ k,cntG gs 4=k:=⟨_,rfl⟩
 rw [hk] at HN htn hcn
 have e2:((ts.length:Int) == 2 * (k:Int))=true:=by rw [htn]; simp
 have hk6:(k:Int)≤6000:=by omega
 clear hg ho hz ht h hzn htn hgv hov hk
 go_enter Tryz.func107,Tryz.ntmps107
 go_wp2_with fail
 apply wp_forget2 (b0:=w.heap.size) (b1:=w.heap.size + 1) (w0:=w) (B:=w.heap.size)
 focus (exact blkBy)
 focus (exact blkBy)
 focus (exact belBy)
 intro W1 k0 k1 hbW
 have c0:=k0.cell
 have f0:=k0.frozen
 have z0:=k0.lt
 have c1:=k1.cell
 have f1:=k1.frozen
 have z1:=k1.lt
 have HCW:=hid (And.intro ((HC.out.1.below hbW).more hbW.size) (And.intro ((HC.out.2.1.below hbW).more hbW.size) (And.intro ((HC.out.2.2.1.below hbW).more hbW.size) ((HC.out.2.2.2.below hbW).more hbW.size))))
 have Q1:=hid (fun x:Later W1=>HCW.out.1.step x.below)
 have Q2:=hid (fun x:Later W1=>HCW.out.2.1.step x.below)
 have Q3:=hid (fun x:Later W1=>HCW.out.2.2.1.step x.below)
 have Q4:=hid (fun x:Later W1=>HCW.out.2.2.2.step x.below)
 have q0:=fun (x:Later W1) (o:Nat)=>(k0.below x.below k0.lt).cell o
 have q1:=fun (x:Later W1) (o:Nat)=>(k1.below x.below k1.lt).cell o
 refine wp_region_later (by kernel_rfl) (by kernel_rfl) ?_
 repeat (go_big_quiet_step (first | (go_at_call 105; with_reducible exact Calls.later (HK.out _ (Q1.out _) (Q2.out _))) | (go_at_call 172; with_reducible exact Calls.later_same (iIsLabel _ _)) | (go_at_call 110; with_reducible exact Calls.later_same (HZ.out _ (Q3.out _))) | (go_at_call 110; with_reducible exact Calls.later_same (HT.out _ (Q4.out _))) | (go_at_call 173; with_reducible exact Calls.later (HN.out _ (Q1.out _)))))
 refine wpQuiet_nil ?_
 rintro _ ⟨⟨w1,hb1⟩,rfl⟩
 try dsimp only
 obtain ⟨z1a,c1a,f1a,k1a⟩:=bfact hb1 k0
 obtain ⟨z1b,c1b,f1b,k1b⟩:=bfact hb1 k1
 clear q0 q1
 go_wp2
 go_ret
 exact ⟨rfl,hbW.trans (hb1.mono hbW.size)⟩
structure PubOk (gs:List Gt) (os ts cs ds:List Int):Prop where
 c:circB gs os=true
 m:os.length≤1000000
 t:∀ x∈ts,labelB x=true
 k:∀ x∈cs,labelB x=true
 d:bitsB ds=true
 tn:ts.length=2 * cntG gs 4
 kn:cs.length=cntG gs 2
 dn:ds.length=os.length
set_option linter.unusedVariables false in
set_option maxRecDepth 100000 in
set_option maxHeartbeats 3200000 in
theorem iPublicOk (G O T K D:Option Addr) (cg co ct ck cd:Nat) (gs:List Gt) (os ts cs ds:List Int) (w:World) (hg:Cells w w.heap.size G (ints (flatG gs))) (ho:Cells w w.heap.size O (ints os)) (ht:Cells w w.heap.size T (ints ts)) (hc:Cells w w.heap.size K (ints cs)) (hd:Cells w w.heap.size D (ints ds)) (h:PubOk gs os ts cs ds) :
  Calls Tryz.prog 109 #[.agg #[.slice G gs.length cg,.slice O os.length co],.agg #[.slice T ts.length ct,.slice K cs.length ck,.slice D ds.length cd]] w fun e w'=>e=.returned (.bool true)∧Below w.heap.size w w':=by
 obtain ⟨hn6,hgv,hov⟩:=circ_parts h.c
 have HC:=hid (And.intro hg (And.intro ho (And.intro ht (And.intro hc hd))))
 have HK:=hid (fun w hg ho=>iCircOk G O cg co gs os w hg ho (by omega) h.m)
 rw [h.c] at HK
 have hcn:=cntG_le gs 4
 have hcn2:=cntG_le gs 2
 have HN:=hid (fun w hg=>iCount G O cg co gs os 4 w hg (by omega))
 have HN2:=hid (fun w hg=>iCount G O cg co gs os 2 w hg (by omega))
 have htn:=h.tn
 have hkn:=h.kn
 have hdn:=h.dn
 have hm:=h.m
 have HT:=hid (fun w hc=>iLabels T ct ts w (fun j x hx=>h.t x (List.mem_of_getElem? hx)) hc (by omega))
 have HQ:=hid (fun w hc=>iLabels K ck cs w (fun j x hx=>h.k x (List.mem_of_getElem? hx)) hc (by omega))
 have HD:=hid (fun w hc=>iBits D cd ds w hc (by omega))
 rw [h.d] at HD
 obtain ⟨k,hk⟩:∃ k,cntG gs 4=k:=⟨_,rfl⟩
 rw [hk] at HN htn hcn
 obtain ⟨k2,hk2⟩:∃ k,cntG gs 2=k:=⟨_,rfl⟩
 rw [hk2] at HN2 hkn hcn2
 have e2:((ts.length:Int) == 2 * (k:Int))=true:=by rw [htn]; simp
 have e3:((cs.length:Int) == (k2:Int))=true:=by rw [hkn]; simp
 have e4:((ds.length:Int) == (os.length:Int))=true:=by rw [hdn]; simp
 have hk6:(k:Int)≤6000:=by omega
 clear hg ho ht hc hd h htn hkn hdn hm hgv hov hk hk2
 go_enter Tryz.func109,Tryz.ntmps109
 go_wp2_with fail
 apply wp_forget2 (b0:=w.heap.size) (b1:=w.heap.size + 1) (w0:=w) (B:=w.heap.size)
 focus (exact blkBy)
 focus (exact blkBy)
 focus (exact belBy)
 intro W1 k0 k1 hbW
 have c0:=k0.cell
 have f0:=k0.frozen
 have z0:=k0.lt
 have c1:=k1.cell
 have f1:=k1.frozen
 have z1:=k1.lt
 have HCW:=hid (And.intro ((HC.out.1.below hbW).more hbW.size) (And.intro ((HC.out.2.1.below hbW).more hbW.size) (And.intro ((HC.out.2.2.1.below hbW).more hbW.size) (And.intro ((HC.out.2.2.2.1.below hbW).more hbW.size) ((HC.out.2.2.2.2.below hbW).more hbW.size)))))
 have Q1:=hid (fun x:Later W1=>HCW.out.1.step x.below)
 have Q2:=hid (fun x:Later W1=>HCW.out.2.1.step x.below)
 have Q3:=hid (fun x:Later W1=>HCW.out.2.2.1.step x.below)
 have Q4:=hid (fun x:Later W1=>HCW.out.2.2.2.1.step x.below)
 have Q5:=hid (fun x:Later W1=>HCW.out.2.2.2.2.step x.below)
 have q0:=fun (x:Later W1) (o:Nat)=>(k0.below x.below k0.lt).cell o
 have q1:=fun (x:Later W1) (o:Nat)=>(k1.below x.below k1.lt).cell o
 refine wp_region_later (by kernel_rfl) (by kernel_rfl) ?_
 repeat (go_big_quiet_step (first | (go_at_call 105; with_reducible exact Calls.later (HK.out _ (Q1.out _) (Q2.out _))) | (go_at_call 93; with_reducible exact Calls.later_same (HD.out _ (Q5.out _))) | (go_at_call 110; with_reducible exact Calls.later_same (HT.out _ (Q3.out _))) | (go_at_call 110; with_reducible exact Calls.later_same (HQ.out _ (Q4.out _))) | (go_at_call 173; with_reducible exact Calls.later (HN.out _ (Q1.out _))) | (go_at_call 173; with_reducible exact Calls.later (HN2.out _ (Q1.out _)))))
 refine wpQuiet_nil ?_
 rintro _ ⟨⟨w1,hb1⟩,rfl⟩
 try dsimp only
 obtain ⟨z1a,c1a,f1a,k1a⟩:=bfact hb1 k0
 obtain ⟨z1b,c1b,f1b,k1b⟩:=bfact hb1 k1
 clear q0 q1
 go_wp2
 go_ret
 exact ⟨rfl,hbW.trans (hb1.mono hbW.size)⟩
open Go.RowKit
theorem blk_ne {w:World} {b c t u:Nat} {cs ds:Array Value} (h:Blk w b t cs) (k:Blk w c u ds) (hne:t≠u):b≠c:=fun e=>by
 subst e
 unfold Blk at h k
 rw [h] at k
 injection k with k
 injection k with _ k _
 exact hne k
structure PubM (w:World) (bc bg br bp:Nat) (cs gc rs:Array Value) (ts ks ds:List Int) (T:Option Addr) (ct:Nat) (K:Option Addr) (kk:Nat) (D:Option Addr) (kd:Nat) (wr:World):Prop where
 c:Blk wr bc TS cs
 g:Blk wr bg TGb gc
 r:Blk wr br TPb rs
 p:Blk wr bp TPb #[.slice T ts.length ct,.slice K ks.length kk,.slice D ds.length kd]
 t:wr.ownsRow w.heap.size 3 1 (.slice T ts.length ct) ts.length (ints ts)
 k:wr.ownsRow w.heap.size 3 1 (.slice K ks.length kk) ks.length (ints ks)
 d:wr.ownsRow w.heap.size 3 1 (.slice D ds.length kd) ds.length (ints ds)
 tk:∀ q,(Value.slice T ts.length ct).ownBlock=some q→(Value.slice K ks.length kk).ownBlock=some q→False
 td:∀ q,(Value.slice T ts.length ct).ownBlock=some q→(Value.slice D ds.length kd).ownBlock=some q→False
 kd:∀ q,(Value.slice K ks.length kk).ownBlock=some q→(Value.slice D ds.length kd).ownBlock=some q→False
 bl:Below w.heap.size w wr
 lp:w.heap.size≤bp
 hr:br≠bp
section
variable {w:World} {bc bg br bp:Nat} {cs gc rs:Array Value} {ts ks ds:List Int} {T:Option Addr} {ct:Nat} {K:Option Addr} {kk:Nat} {D:Option Addr} {kd:Nat} {wr w':World}
theorem PubM.below (h:PubM w bc bg br bp cs gc rs ts ks ds T ct K kk D kd wr) (hb:Below wr.heap.size wr w'):PubM w bc bg br bp cs gc rs ts ks ds T ct K kk D kd w' :=
 ⟨h.c.past hb,h.g.past hb,h.r.past hb,h.p.past hb,own_below h.t hb,own_below h.k hb,own_below h.d hb,h.tk,h.td,h.kd,h.bl.trans (hb.mono h.bl.size),h.lp,h.hr⟩
theorem PubM.con {v:Int} {A:Option Addr} {k':Nat} {w5 X:World} (h:PubM w bc bg br bp cs gc rs ts ks ds T ct K kk D kd wr) (hX:Below wr.heap.size wr X) (h1:w5.ownsRow w.heap.size 3 1 (.slice A (ks.length + 1) k') (ks.length + 1) (ints (ks ++ [v]))) (h2:X.grownBy w5 (Value.slice K ks.length kk).ownBlock)
  (h3:∀ q,(Value.slice A (ks.length + 1) k').ownBlock=some q→(Value.slice K ks.length kk).ownBlock=some q∨wr.heap.size≤q):PubM w bc bg br bp cs gc rs ts (ks ++ [v]) ds T ct A k' D kd (w5.setCell ⟨bp,1,none⟩ (.slice A (ks.length + 1) k')):=by
 have hl:(ks ++ [v]).length=ks.length + 1:=by simp
 have hsz:=h.bl.size
 have h2:=below_grown hX h2
 have c5:=gr_blk h2 h.c (own_ne_obj h.k h.c (by decide))
 have g5:=gr_blk h2 h.g (own_ne_obj h.k h.g (by decide))
 have p5:=gr_blk h2 h.p (own_ne_obj h.k h.p (by decide))
 have r5:=gr_blk h2 h.r (own_ne_obj h.k h.r (by decide))
 have o1:=gr_own h2 h.t (fun q p hq hp e=>by subst e; exact h.tk q hp hq)
 have o2:=gr_own h2 h.d (fun q p hq hp e=>by subst e; exact h.kd q hq hp)
 have b5:Below w.heap.size w w5:=gr_below h2 h.bl hsz (fun q hq=>by have:=(own_in h.k q hq).1; omega)
 have ts5:Touch [bp] w5 (w5.setCell ⟨bp,1,none⟩ (.slice A (ks.length + 1) k')):=(Touch.refl _ _).set_ _ _ (by simp)
 have hm:∀ q,q≠bp→q ∉ [bp]:=fun q hq=>by simp [hq]
 have hbc:bc≠bp:=blk_ne h.c h.p (by decide)
 have hbg:bg≠bp:=blk_ne h.g h.p (by decide)
 refine ⟨Blk.touch ts5 c5 (hm _ hbc),Blk.touch ts5 g5 (hm _ hbg),Blk.touch ts5 r5 (hm _ h.hr),?_,own_touch' ts5 o1 (fun q hq=>hm q (own_ne_obj o1 p5 (by decide) q hq)),?_,own_touch' ts5 o2 (fun q hq=>hm q (own_ne_obj o2 p5 (by decide) q hq)),?_,h.td,?_,ts5.below' b5 (fun i hi=>by simp at hi; have:=h.lp; omega) b5.size,h.lp,h.hr⟩
 ·rw [hl]
  exact p5.set_ 1 _
 ·rw [hl]
  exact own_touch' ts5 h1 (fun q hq=>hm q (own_ne_obj h1 p5 (by decide) q hq))
 ·intro q hq hp
  rw [hl] at hp
  rcases h3 q hp with h3 | h3
  ·exact h.tk _ hq h3
  ·have:=(own_in h.t q hq).2
   omega
 ·intro q hq hp
  rw [hl] at hq
  rcases h3 q hq with h3 | h3
  ·exact h.kd _ h3 hp
  ·have:=(own_in h.d q hp).2
   omega
theorem PubM.dec {v:Int} {A:Option Addr} {k':Nat} {w5 X:World} (h:PubM w bc bg br bp cs gc rs ts ks ds T ct K kk D kd wr) (hX:Below wr.heap.size wr X) (h1:w5.ownsRow w.heap.size 3 1 (.slice A (ds.length + 1) k') (ds.length + 1) (ints (ds ++ [v]))) (h2:X.grownBy w5 (Value.slice D ds.length kd).ownBlock)
  (h3:∀ q,(Value.slice A (ds.length + 1) k').ownBlock=some q→(Value.slice D ds.length kd).ownBlock=some q∨wr.heap.size≤q):PubM w bc bg br bp cs gc rs ts ks (ds ++ [v]) T ct K kk A k' (w5.setCell ⟨bp,2,none⟩ (.slice A (ds.length + 1) k')):=by
 have hl:(ds ++ [v]).length=ds.length + 1:=by simp
 have hsz:=h.bl.size
 have h2:=below_grown hX h2
 have c5:=gr_blk h2 h.c (own_ne_obj h.d h.c (by decide))
 have g5:=gr_blk h2 h.g (own_ne_obj h.d h.g (by decide))
 have p5:=gr_blk h2 h.p (own_ne_obj h.d h.p (by decide))
 have r5:=gr_blk h2 h.r (own_ne_obj h.d h.r (by decide))
 have o1:=gr_own h2 h.t (fun q p hq hp e=>by subst e; exact h.td q hp hq)
 have o2:=gr_own h2 h.k (fun q p hq hp e=>by subst e; exact h.kd q hp hq)
 have b5:Below w.heap.size w w5:=gr_below h2 h.bl hsz (fun q hq=>by have:=(own_in h.d q hq).1; omega)
 have ts5:Touch [bp] w5 (w5.setCell ⟨bp,2,none⟩ (.slice A (ds.length + 1) k')):=(Touch.refl _ _).set_ _ _ (by simp)
 have hm:∀ q,q≠bp→q ∉ [bp]:=fun q hq=>by simp [hq]
 have hbc:bc≠bp:=blk_ne h.c h.p (by decide)
 have hbg:bg≠bp:=blk_ne h.g h.p (by decide)
 refine ⟨Blk.touch ts5 c5 (hm _ hbc),Blk.touch ts5 g5 (hm _ hbg),Blk.touch ts5 r5 (hm _ h.hr),?_,own_touch' ts5 o1 (fun q hq=>hm q (own_ne_obj o1 p5 (by decide) q hq)),own_touch' ts5 o2 (fun q hq=>hm q (own_ne_obj o2 p5 (by decide) q hq)),?_,h.tk,?_,?_,ts5.below' b5 (fun i hi=>by simp at hi; have:=h.lp; omega) b5.size,h.lp,h.hr⟩
 ·rw [hl]
  exact p5.set_ 2 _
 ·rw [hl]
  exact own_touch' ts5 h1 (fun q hq=>hm q (own_ne_obj h1 p5 (by decide) q hq))
 ·intro q hq hp
  rw [hl] at hp
  rcases h3 q hp with h3 | h3
  ·exact h.td _ hq h3
  ·have:=(own_in h.t q hq).2
   omega
 ·intro q hq hp
  rw [hl] at hp
  rcases h3 q hp with h3 | h3
  ·exact h.kd _ hq h3
  ·have:=(own_in h.k q hq).2
   omega
end
def GivesP (w:World) (ts ks ds:List Int) (e:Ending) (w':World):Prop :=
 ∃ T ct K kk D kd,e=.returned (.tuple #[.agg #[.slice T ts.length ct,.slice K ks.length kk,.slice D ds.length kd],.bool true])∧w'.ownsRow w.heap.size 3 1 (.slice T ts.length ct) ts.length (ints ts) ∧
  w'.ownsRow w.heap.size 3 1 (.slice K ks.length kk) ks.length (ints ks)∧w'.ownsRow w.heap.size 3 1 (.slice D ds.length kd) ds.length (ints ds)∧Below w.heap.size w w'
theorem PubM.give {w:World} {bc bg br bp:Nat} {cs gc rs:Array Value} {ts ks ds:List Int} {T:Option Addr} {ct:Nat} {K:Option Addr} {kk:Nat} {D:Option Addr} {kd:Nat} {wr w5:World} (h:PubM w bc bg br bp cs gc rs ts ks ds T ct K kk D kd wr) (ht:Touch [br] wr w5) (hb:w.heap.size≤br) :
  GivesP w ts ks ds (.returned (.tuple #[.agg #[.slice T ts.length ct,.slice K ks.length kk,.slice D ds.length kd],.bool true])) w5:=by
 have hm:∀ q,q≠br→q ∉ [br]:=fun q hq=>by simp [hq]
 exact ⟨T,ct,K,kk,D,kd,rfl,own_touch' ht h.t (fun q hq=>hm q (own_ne_obj h.t h.r (by decide) q hq)),own_touch' ht h.k (fun q hq=>hm q (own_ne_obj h.k h.r (by decide) q hq)),own_touch' ht h.d (fun q hq=>hm q (own_ne_obj h.d h.r (by decide) q hq)),
  ht.below' h.bl (fun i hi=>by simp at hi; omega) h.bl.size⟩
open Go.RowKit
def gval (B vs:List Int) (g:Gt):Int :=
 if g.k=1 then B.getD g.a.toNat 0
 else if g.k=2 then g.a
 else if g.k=3 then (vs.getD g.a.toNat 0 + vs.getD g.b.toNat 0) % 2
 else if g.k=4 then vs.getD g.a.toNat 0 * vs.getD g.b.toNat 0
 else 1 - vs.getD g.a.toNat 0
def ev (B:List Int) (gs:List Gt):List Int:=gs.foldl (fun vs g=>vs ++ [gval B vs g]) []
theorem ev_snoc (B:List Int) (gs:List Gt) (g:Gt):ev B (gs ++ [g])=ev B gs ++ [gval B (ev B gs) g]:=by simp [ev]
theorem ev_length (B:List Int) (gs:List Gt):(ev B gs).length=gs.length:=by
 have:∀ (gs:List Gt) (vs:List Int),(gs.foldl (fun vs g=>vs ++ [gval B vs g]) vs).length=vs.length + gs.length:=fun gs=>by
  induction gs with
  | nil=>intro vs; rfl
  | cons g gs ih=>intro vs; rw [List.foldl_cons,ih]; simp; omega
 have h:=this gs []
 simpa [ev] using h
def V (B:List Int) (gs:List Gt) (w:Int):Int:=(ev B gs).getD w.toNat 0
def Bit (x:Int):Prop:=x=0∨x=1
theorem bit_add {x y:Int}:Bit ((x + y) % 2):=by unfold Bit; omega
theorem bit_mul {x y:Int} (hx:Bit x) (hy:Bit y):Bit (x * y):=by
 rcases hx with rfl | rfl <;> rcases hy with rfl | rfl <;> simp [Bit]
theorem bit_not {x:Int} (hx:Bit x):Bit (1 - x):=by unfold Bit at *; omega
theorem gval_bit {B:List Int} {gs:List Gt} {g:Gt} (hB:∀ x∈B,Bit x) (hb:∀ w,Bit (V B gs w)) {n:Int} (hg:gateB g n=true):Bit (gval B (ev B gs) g):=by
 unfold gval
 split
 ·rw [List.getD_eq_getElem?_getD]
  cases h:B[g.a.toNat]? with
  | none=>exact .inl rfl
  | some x=>exact hB x (List.mem_of_getElem? h)
 split
 ·next h1 h2 =>
  unfold gateB at hg
  rw [if_neg h1,if_pos h2] at hg
  simp only [Bool.and_eq_true,inB_iff] at hg
  unfold Bit
  omega
 split
 ·exact bit_add
 split
 ·exact bit_mul (hb g.a) (hb g.b)
 ·exact bit_not (hb g.a)
theorem ev_bit {B:List Int} {gs:List Gt} (hB:∀ x∈B,Bit x) (h:gatesB 0 gs=true):∀ w,Bit (V B gs w):=by
 have:∀ k,k≤gs.length→∀ w,Bit (V B (gs.take k) w):=fun k=>by
  induction k with
  | zero=>intro _ w; simp [V,ev,Bit]
  | succ k ih =>
   intro hk w
   have hk':k < gs.length:=by omega
   have hg:=gatesB_at h (List.getElem?_eq_getElem hk')
   rw [List.take_succ_eq_append_getElem hk']
   unfold V
   rw [ev_snoc,List.getD_eq_getElem?_getD]
   by_cases hw:w.toNat < (ev B (gs.take k)).length
   ·rw [List.getElem?_append_left hw,←List.getD_eq_getElem?_getD]
    exact ih (by omega) w
   ·rw [List.getElem?_append_right (by omega)]
    by_cases hw2:w.toNat - (ev B (gs.take k)).length=0
    ·rw [hw2]
     exact gval_bit hB (ih (by omega)) hg
    ·rw [List.getElem?_eq_none (by simp; omega)]
     exact .inl rfl
 have h1:=this gs.length (Nat.le_refl _)
 rwa [List.take_length] at h1
open Go.RowKit
open Go.RowKit
open Go.RowKit
open Go.RowKit
def bits4 (n:Int):List Int:=[n % 2,n / 2 % 2,n / 4 % 2,n / 8 % 2]
def inBits (ins:List (List Int)):List Int:=(ins.flatMap fun l=>l.flatMap bits4)
def insB (ins:List (List Int)):Bool:=decide (ins.length=5) && ins.all fun l=>decide (l.length=4) && l.all fun n=>inB n 0 15
theorem list4 {l:List Int} (h:l.length=4):∃ a b c d,l=[a,b,c,d]:=by
 match l,h with
 | [a,b,c,d],_=>exact ⟨a,b,c,d,rfl⟩
theorem ins_parts {ins:List (List Int)} (h:insB ins=true):∃ a b c d e,ins=[a,b,c,d,e]∧∀ l∈ins,l.length=4∧∀ n∈l,0≤n∧n≤15:=by
 unfold insB at h
 rw [Bool.and_eq_true,decide_eq_true_eq] at h
 obtain ⟨h1,h2⟩:=h
 match ins,h1 with
 | [a,b,c,d,e],_ =>
  refine ⟨a,b,c,d,e,rfl,fun l hl=>?_⟩
  have:=List.all_eq_true.1 h2 l hl
  rw [Bool.and_eq_true,decide_eq_true_eq] at this
  exact ⟨this.1,fun n hn=>inB_iff.1 (List.all_eq_true.1 this.2 n hn)⟩
theorem inBits_bit {ins:List (List Int)}:∀ x∈inBits ins,Bit x:=by
 intro x hx
 unfold inBits at hx
 obtain ⟨l,_,hx⟩:=List.mem_flatMap.1 hx
 obtain ⟨n,_,hx⟩:=List.mem_flatMap.1 hx
 simp [bits4] at hx
 unfold Bit
 omega
theorem inBits_len {ins:List (List Int)} (h:insB ins=true):(inBits ins).length=80:=by
 obtain ⟨a,b,c,d,e,rfl,hl⟩:=ins_parts h
 have:=fun l hl'=>(hl l hl').1
 simp at this
 obtain ⟨ha,hb,hc,hd,he⟩:=this
 obtain ⟨a0,a1,a2,a3,rfl⟩:=list4 ha
 obtain ⟨b0,b1,b2,b3,rfl⟩:=list4 hb
 obtain ⟨c0,c1,c2,c3,rfl⟩:=list4 hc
 obtain ⟨d0,d1,d2,d3,rfl⟩:=list4 hd
 obtain ⟨e0,e1,e2,e3,rfl⟩:=list4 he
 rfl
open Go.RowKit
def conOne (g:Gt):Nat:=if (g.k == 2)=true then 1 else 0
def conG (gs:List Gt):Nat:=(gs.filter (fun g=>g.k == 2)).length
theorem conG_snoc (gs:List Gt) (g:Gt):conG (gs ++ [g])=conG gs + conOne g:=by
 unfold conG conOne
 rw [List.filter_append,List.length_append]
 cases h:(g.k == 2) <;> simp [h]
def evA (a b g e n:Int):Int:=xorI (xorI (xorI (hashI a (2 * n)) (hashI b (2 * n + 1))) (ifI (oneI a) g)) (ifI (oneI b) (xorI e a))
def evW (T C ls out:List Int) (ka kc n:Nat) (g:Gt):Int :=
 if g.k=1 then ls.getD g.a.toNat 0
 else if g.k=2 then C.getD kc 0
 else if g.k=3 then xorI (out.getD g.a.toNat 0) (out.getD g.b.toNat 0)
 else if g.k=5 then out.getD g.a.toNat 0
 else evA (out.getD g.a.toNat 0) (out.getD g.b.toNat 0) (T.getD (2 * ka) 0) (T.getD (2 * ka + 1) 0) n
def evTo (T C ls:List Int) (gs:List Gt):Nat→List Int
 | 0=>[]
 | j + 1=>evTo T C ls gs j ++ [evW T C ls (evTo T C ls gs j) (andG (gs.take j)) (conG (gs.take j)) j (gs.getD j ⟨0,0,0⟩)]
theorem evTo_length (T C ls:List Int) (gs:List Gt):∀ j,(evTo T C ls gs j).length=j
 | 0=>rfl
 | j + 1=>by rw [evTo,List.length_append,evTo_length T C ls gs j]; rfl
def conP (d:Int) (zs:List Int) (n:Nat) (g:Gt):List Int:=if (g.k == 2)=true then [lblI (zs.getD n 0) d g.a] else []
def conTo (d:Int) (zs:List Int) (gs:List Gt):Nat→List Int
 | 0=>[]
 | j + 1=>conTo d zs gs j ++ conP d zs j (gs.getD j ⟨0,0,0⟩)
def decL (zs os:List Int):List Int:=os.map fun w=>oneI (zs.getD w.toNat 0)
theorem take_step {gs:List Gt} {j:Nat} (h:j < gs.length):gs.take (j + 1)=gs.take j ++ [gs.getD j ⟨0,0,0⟩]∧gs[j]? = some (gs.getD j ⟨0,0,0⟩):=by
 have e:gs.getD j ⟨0,0,0⟩=gs[j]:=by rw [List.getD_eq_getElem?_getD,List.getElem?_eq_getElem h]; rfl
 rw [e]
 exact ⟨List.take_succ_eq_append_getElem h,List.getElem?_eq_getElem h⟩
theorem conTo_length (d:Int) (zs:List Int) (gs:List Gt):∀ j,j≤gs.length→(conTo d zs gs j).length=conG (gs.take j)
 | 0,_=>rfl
 | j + 1,hj=>by
  rw [conTo,List.length_append,conTo_length d zs gs j (by omega),(take_step (by omega:j < gs.length)).1,conG_snoc]
  unfold conP conOne
  split <;> rfl
theorem gar_pre (s d:Int) (gs:List Gt) (j:Nat):∀ k,∃ l,(garTo s d gs (j + k)).1=(garTo s d gs j).1 ++ l
 | 0=>⟨[],by simp⟩
 | k + 1=>by
  obtain ⟨l,h⟩:=gar_pre s d gs j k
  exact ⟨_,by rw [←Nat.add_assoc,garTo,h,List.append_assoc]⟩
theorem gar_tpre (s d:Int) (gs:List Gt) (j:Nat):∀ k,∃ l,(garTo s d gs (j + k)).2=(garTo s d gs j).2 ++ l
 | 0=>⟨[],by simp⟩
 | k + 1=>by
  obtain ⟨l,h⟩:=gar_tpre s d gs j k
  exact ⟨_,by rw [←Nat.add_assoc,garTo,h,List.append_assoc]⟩
theorem getD_pre {l r:List Int} {i:Nat} (h:i < l.length):(l ++ r).getD i 0=l.getD i 0:=by
 rw [List.getD_eq_getElem?_getD,List.getElem?_append_left h,←List.getD_eq_getElem?_getD]
theorem getD_mid (l r:List Int) (x:Int):(l ++ x :: r).getD l.length 0=x:=by
 rw [List.getD_eq_getElem?_getD,List.getElem?_append_right (Nat.le_refl _)]
 simp
theorem getD_mid1 (l r:List Int) (x y:Int):(l ++ x :: y :: r).getD (l.length + 1) 0=y:=by
 rw [List.getD_eq_getElem?_getD,List.getElem?_append_right (by omega)]
 simp
theorem gar_same {s d:Int} {gs:List Gt} {i j n:Nat} (hi:i < j) (hj:j≤n):(garTo s d gs n).1.getD i 0=(garTo s d gs j).1.getD i 0:=by
 obtain ⟨l,h⟩:=gar_pre s d gs j (n - j)
 rw [show j + (n - j)=n by omega] at h
 rw [h,getD_pre (by rw [gar_zeros]; omega)]
theorem gar_tab {s d:Int} {gs:List Gt} {j n:Nat} (hj:j < n) (hn:n≤gs.length) (hk:(gs.getD j ⟨0,0,0⟩).k=4) :
  (garTo s d gs n).2.getD (2 * andG (gs.take j)) 0=tgI d ((garTo s d gs j).1.getD (gs.getD j ⟨0,0,0⟩).a.toNat 0) ((garTo s d gs j).1.getD (gs.getD j ⟨0,0,0⟩).b.toNat 0) j ∧
  (garTo s d gs n).2.getD (2 * andG (gs.take j) + 1) 0=teI d ((garTo s d gs j).1.getD (gs.getD j ⟨0,0,0⟩).a.toNat 0) ((garTo s d gs j).1.getD (gs.getD j ⟨0,0,0⟩).b.toNat 0) j:=by
 obtain ⟨l,h⟩:=gar_tpre s d gs (j + 1) (n - (j + 1))
 rw [show j + 1 + (n - (j + 1))=n by omega,garTo] at h
 dsimp only at h
 rw [garT,if_pos (by rw [hk]; rfl),List.append_assoc] at h
 rw [h,←gar_tables s d gs j (by omega)]
 exact ⟨getD_mid _ _ _,getD_mid1 _ _ _ _⟩
theorem con_pre (d:Int) (zs:List Int) (gs:List Gt) (j:Nat):∀ k,∃ l,conTo d zs gs (j + k)=conTo d zs gs j ++ l
 | 0=>⟨[],by simp⟩
 | k + 1=>by
  obtain ⟨l,h⟩:=con_pre d zs gs j k
  exact ⟨_,by rw [←Nat.add_assoc,conTo,h,List.append_assoc]⟩
theorem con_at {d:Int} {zs:List Int} {gs:List Gt} {j n:Nat} (hj:j < n) (hn:n≤gs.length) (hk:(gs.getD j ⟨0,0,0⟩).k=2) :
  (conTo d zs gs n).getD (conG (gs.take j)) 0=lblI (zs.getD j 0) d (gs.getD j ⟨0,0,0⟩).a:=by
 obtain ⟨l,h⟩:=con_pre d zs gs (j + 1) (n - (j + 1))
 rw [show j + 1 + (n - (j + 1))=n by omega,conTo,conP,if_pos (by rw [hk]; rfl),List.append_assoc] at h
 rw [h,←conTo_length d zs gs j (by omega)]
 exact getD_mid _ _ _
def lab (x:BitVec 16):Int:=((x.toNat:Nat):Int)
theorem lab_of {z:Int} (h:labelB z=true):∃ x,z=lab x:=by
 obtain ⟨h0,h1⟩:=labelB_iff.1 h
 obtain ⟨n,rfl⟩:=Int.eq_ofNat_of_zero_le h0
 refine ⟨BitVec.ofNat 16 n,?_⟩
 unfold lab
 rw [BitVec.toNat_ofNat,Nat.mod_eq_of_lt (by omega)]
theorem lab_xor (x y:BitVec 16):xorI (lab x) (lab y)=lab (x ^^^ y):=by
 have hx:=x.isLt
 have hy:=y.isLt
 unfold xorI lab
 rw [xor_nat _ _ (by omega) (by omega),BitVec.toNat_xor]
theorem lab_zero:(0:Int)=lab 0#16:=rfl
theorem lab_one (x:BitVec 16):oneI (lab x)=((x.toNat % 2:Nat):Int):=by
 have hx:=x.isLt
 unfold oneI lab
 rw [show (1:Int)=((1:Nat):Int) from rfl,and_nat _ _ (by omega) (by omega),Nat.and_one_is_mod]
theorem lab_odd (x y:BitVec 16):(x ^^^ y).toNat % 2=(x.toNat + y.toNat) % 2:=by
 have h:=@Nat.xor_mod_two_eq_one x.toNat y.toNat
 rw [BitVec.toNat_xor]
 omega
theorem xlc (a b c:BitVec 16):a ^^^ (b ^^^ c)=b ^^^ (a ^^^ c):=by rw [←BitVec.xor_assoc,BitVec.xor_comm a b,BitVec.xor_assoc]
theorem xcc (a b:BitVec 16):a ^^^ (a ^^^ b)=b:=by rw [←BitVec.xor_assoc,BitVec.xor_self,BitVec.zero_xor]
theorem lbl0 (z d:Int):lblI z d 0=z:=rfl
theorem lbl1 (z d:Int):lblI z d 1=xorI z d:=rfl
theorem if0 (x:Int):ifI 0 x=0:=rfl
theorem if1 (x:Int):ifI 1 x=x:=rfl
theorem delta_odd (s a:Int):oneI (deltaI s a)=1:=by
 unfold deltaI
 obtain ⟨a0,a1⟩:=labelB_iff.1 (below_label s a 65536)
 obtain ⟨x,hx⟩:=Int.eq_ofNat_of_zero_le a0
 rw [hx] at a1 ⊢
 have e:=or_nat x 1 (by omega) (by omega)
 have h:x ||| 1 < 2 ^ 16:=Nat.or_lt_two_pow (by omega) (by omega)
 rw [show (1:Int)=((1:Nat):Int) from rfl,e]
 unfold oneI
 rw [show (1:Int)=((1:Nat):Int) from rfl,and_nat _ _ (by omega) (by omega),Nat.and_one_is_mod]
 have:(x ||| 1) % 2=1:=by rw [Nat.or_mod_two_eq_one]; exact .inr rfl
 rw [this]
theorem and_lab {d za zb va vb:Int} (n:Int) (hd:labelB d=true) (ho:oneI d=1) (ha:labelB za=true) (hb:labelB zb=true) (h1:Bit va) (h2:Bit vb) :
  evA (lblI za d va) (lblI zb d vb) (tgI d za zb n) (teI d za zb n) n=lblI (gaI d za zb n) d (va * vb):=by
 obtain ⟨a,rfl⟩:=lab_of ha
 obtain ⟨b,rfl⟩:=lab_of hb
 obtain ⟨e,rfl⟩:=lab_of hd
 rw [lab_one] at ho
 have he:e.toNat % 2=1:=by omega
 obtain ⟨p,hp⟩:=lab_of (hash_label (lab a) (2 * n))
 obtain ⟨q,hq⟩:=lab_of (hash_label (lab (a ^^^ e)) (2 * n))
 obtain ⟨r,hr⟩:=lab_of (hash_label (lab b) (2 * n + 1))
 obtain ⟨t,ht⟩:=lab_of (hash_label (lab (b ^^^ e)) (2 * n + 1))
 have ca:a.toNat % 2=0∨a.toNat % 2=1:=by omega
 have cb:b.toNat % 2=0∨b.toNat % 2=1:=by omega
 have xa:=lab_odd a e
 have xb:=lab_odd b e
 unfold evA gaI tgI teI
 rcases h1 with rfl | rfl <;> rcases h2 with rfl | rfl <;> simp only [Int.mul_zero,Int.mul_one,lbl0,lbl1,lab_xor,hp,hq,hr,ht,lab_one] <;>
  rcases ca with ca | ca <;> rcases cb with cb | cb <;> (have ya:(a ^^^ e).toNat % 2=1 - a.toNat % 2:=by omega) <;> (have yb:(b ^^^ e).toNat % 2=1 - b.toNat % 2:=by omega) <;>
  rw [ca] at ya <;> rw [cb] at yb <;> simp only [ca,cb,ya,yb,Nat.sub_zero,Nat.sub_self,Int.natCast_zero,Int.natCast_one,if0,if1] <;> simp only [lab_zero,lab_xor] <;> (try simp only [BitVec.xor_assoc,BitVec.xor_comm,xlc,xcc,BitVec.xor_self,BitVec.xor_zero,BitVec.zero_xor])
theorem sum_lab {d za zb va vb:Int} (hd:labelB d=true) (ha:labelB za=true) (hb:labelB zb=true) (h1:Bit va) (h2:Bit vb):xorI (lblI za d va) (lblI zb d vb)=lblI (xorI za zb) d ((va + vb) % 2):=by
 obtain ⟨a,rfl⟩:=lab_of ha
 obtain ⟨b,rfl⟩:=lab_of hb
 obtain ⟨e,rfl⟩:=lab_of hd
 rcases h1 with rfl | rfl <;> rcases h2 with rfl | rfl
 ·show xorI (lab a) (lab b)=lblI _ _ 0
  rw [lbl0]
 ·show xorI (lab a) (xorI (lab b) (lab e))=lblI _ _ 1
  rw [lbl1,lab_xor,lab_xor,lab_xor,lab_xor,BitVec.xor_assoc]
 ·show xorI (xorI (lab a) (lab e)) (lab b)=lblI _ _ 1
  rw [lbl1,lab_xor,lab_xor,lab_xor,lab_xor,BitVec.xor_assoc,BitVec.xor_comm e b,BitVec.xor_assoc]
 ·show xorI (xorI (lab a) (lab e)) (xorI (lab b) (lab e))=lblI _ _ 0
  rw [lbl0,lab_xor,lab_xor,lab_xor,lab_xor,BitVec.xor_assoc,xlc e b e,BitVec.xor_self,BitVec.xor_zero]
theorem not_lab {d z v:Int} (hd:labelB d=true) (hz:labelB z=true) (hv:Bit v):lblI z d v=lblI (xorI z d) d (1 - v):=by
 obtain ⟨a,rfl⟩:=lab_of hz
 obtain ⟨e,rfl⟩:=lab_of hd
 rcases hv with rfl | rfl
 ·show lblI _ _ 0=lblI _ _ 1
  rw [lbl0,lbl1,lab_xor,lab_xor,BitVec.xor_assoc,BitVec.xor_self,BitVec.xor_zero]
 ·show lblI _ _ 1=lblI _ _ 0
  rw [lbl0,lbl1]
theorem ev_labels {s d:Int} {B ls:List Int} {gs:List Gt} (hd:labelB d=true) (ho:oneI d=1) (hB:∀ x∈B,Bit x) (hg:gatesB 0 gs=true)
  (hls:∀ k:Nat,k < 80→ls.getD k 0=lblI (zeroI s k) d (B.getD k 0)) :
  ∀ j,j≤gs.length→∀ i,i < j→(evTo (garTo s d gs gs.length).2 (conTo d (garTo s d gs gs.length).1 gs gs.length) ls gs j).getD i 0=lblI ((garTo s d gs gs.length).1.getD i 0) d ((ev B (gs.take j)).getD i 0)
 | 0,_,i,hi=>absurd hi (by omega)
 | j + 1,hj,i,hi=>by
  obtain ⟨et,eg⟩:=take_step (by omega:j < gs.length)
  have ih:=ev_labels hd ho hB hg hls j (by omega)
  have hv:gateB (gs.getD j ⟨0,0,0⟩) j=true:=by
   have:=gatesB_at hg eg
   rwa [Nat.zero_add] at this
  have hgt:gatesB 0 (gs.take j)=true:=by
   have h:=hg
   rw [←List.take_append_drop j gs,gatesB_append,Bool.and_eq_true] at h
   exact h.1
  have hbit:=ev_bit hB hgt
  have hvl:(ev B (gs.take j)).length=j:=by rw [ev_length,List.length_take]; omega
  have hel:=evTo_length (garTo s d gs gs.length).2 (conTo d (garTo s d gs gs.length).1 gs gs.length) ls gs j
  have hzl:=gar_labels (s:=s) gs hd j
  have hz0:∀ x:Int,0≤x∧x < j→(garTo s d gs gs.length).1.getD x.toNat 0=(garTo s d gs j).1.getD x.toNat 0:=fun x hx=>gar_same (by omega) (by omega)
  have hlb:∀ x:Int,labelB ((garTo s d gs j).1.getD x.toNat 0)=true:=fun x=>getD_label hzl _
  have hwire:∀ x:Int,0≤x∧x < j→(evTo (garTo s d gs gs.length).2 (conTo d (garTo s d gs gs.length).1 gs gs.length) ls gs j).getD x.toNat 0=lblI ((garTo s d gs j).1.getD x.toNat 0) d (V B (gs.take j) x):=fun x hx=>by
   rw [ih x.toNat (by omega),hz0 x hx]
   rfl
  rw [evTo,et,ev_snoc]
  by_cases hij:i < j
  ·rw [getD_pre (by rw [hel]; exact hij),getD_pre (by rw [hvl]; exact hij)]
   exact ih i hij
  ·have e:i=j:=by omega
   subst e
   have e1:∀ x:Int,(evTo (garTo s d gs gs.length).2 (conTo d (garTo s d gs gs.length).1 gs gs.length) ls gs i ++ [x]).getD i 0=x:=fun x=>by
    have:=getD_mid (evTo (garTo s d gs gs.length).2 (conTo d (garTo s d gs gs.length).1 gs gs.length) ls gs i) [] x
    rwa [hel] at this
   have e2:∀ x:Int,(ev B (gs.take i) ++ [x]).getD i 0=x:=fun x=>by
    have:=getD_mid (ev B (gs.take i)) [] x
    rwa [hvl] at this
   have e3:(garTo s d gs gs.length).1.getD i 0=garZ s d (garTo s d gs i).1 i (gs.getD i ⟨0,0,0⟩):=by
    rw [gar_same (Nat.lt_succ_self i) (by omega),garTo]
    dsimp only
    have:=getD_mid (garTo s d gs i).1 [] (garZ s d (garTo s d gs i).1 i (gs.getD i ⟨0,0,0⟩))
    rwa [gar_zeros] at this
   rw [e1,e2]
   have eC:(gs.getD i ⟨0,0,0⟩).k=2→(conTo d (garTo s d gs gs.length).1 gs gs.length).getD (conG (gs.take i)) 0=lblI ((garTo s d gs gs.length).1.getD i 0) d (gs.getD i ⟨0,0,0⟩).a:=fun hk=>con_at (by omega) (Nat.le_refl _) hk
   have eT:=fun hk=>gar_tab (s:=s) (d:=d) (gs:=gs) (j:=i) (n:=gs.length) (by omega) (Nat.le_refl _) hk
   generalize (gs.getD i ⟨0,0,0⟩)=g at *
   rw [e3] at eC ⊢
   unfold evW garZ gval
   unfold garZ at eC
   rcases gate_kind hv with hk | hk | hk | hk | hk
   ·obtain ⟨hr,_⟩:=gate_is1 hv hk
    rw [if_pos hk,if_pos hk,if_pos hk,hls _ (by omega),show ((g.a.toNat:Nat):Int)=g.a by omega]
   ·rw [if_neg (by omega),if_pos hk,if_neg (by omega),if_pos hk,if_neg (by omega),if_pos hk]
    rw [if_neg (by omega),if_pos hk] at eC
    exact eC hk
   ·obtain ⟨ha,hb⟩:=gate_is34 hv (.inl hk)
    rw [if_neg (by omega),if_neg (by omega),if_pos hk,if_neg (by omega),if_neg (by omega),if_pos hk,if_neg (by omega),if_neg (by omega),if_pos hk,hwire _ ha,hwire _ hb]
    exact sum_lab hd (hlb _) (hlb _) (hbit _) (hbit _)
   ·obtain ⟨ha,hb⟩:=gate_is34 hv (.inr hk)
    obtain ⟨t1,t2⟩:=eT hk
    rw [if_neg (by omega),if_neg (by omega),if_neg (by omega),if_neg (by omega),if_neg (by omega),if_neg (by omega),if_neg (by omega),if_neg (by omega),if_neg (by omega),if_neg (by omega),if_neg (by omega),if_pos hk,hwire _ ha,hwire _ hb,t1,t2]
    exact and_lab _ hd ho (hlb _) (hlb _) (hbit _) (hbit _)
   ·obtain ⟨ha,_⟩:=gate_is5 hv hk
    rw [if_neg (by omega),if_neg (by omega),if_neg (by omega),if_pos hk,if_neg (by omega),if_neg (by omega),if_neg (by omega),if_pos hk,if_neg (by omega),if_neg (by omega),if_neg (by omega),if_neg (by omega),hwire _ ha]
    exact not_lab hd (hlb _) (hbit _)
open Go.RowKit
theorem iHash (x n:Int) (w:World) (hx:labelB x=true) (hn:inB n 0 1000000=true) :
  Calls Tryz.prog 106 #[.int .i64 x,.int .i64 n] w fun e w'=>e=.returned (.int .i64 (hashI x n))∧w=w':=by
 have hh:(keyedI 77 n x).tmod 65536=hashI x n:=Int.tmod_eq_emod_of_nonneg (keyedI_range 77 n x).1
 go_enter Tryz.func106,Tryz.ntmps106
 go_wp2_with first | (go_at_call 172; refine (iIsLabel _ _).mono ?_; rintro e w' ⟨rfl,rfl⟩) | (go_at_call 56; refine (iWithin _ _ _ _).mono ?_; rintro e w' ⟨rfl,rfl⟩) | (go_at_call 57; refine (iKeyed _ _ _ _).mono ?_; rintro e w' ⟨rfl,rfl⟩)
 go_ret
 exact ⟨rfl,rfl⟩
theorem mul_if {b x:Int} (hb:labelB b=true) (hx:labelB x=true):IntKind.i64.wrap (bits .and .i64 b 1 * x)=ifI (oneI b) x:=by
 obtain ⟨b0,b1⟩:=labelB_iff.1 hb
 obtain ⟨y,rfl⟩:=Int.eq_ofNat_of_zero_le b0
 have h:=labelB_iff.1 hx
 have e:bits .and .i64 ((y:Nat):Int) 1=((y % 2:Nat):Int):=by
  rw [show (1:Int)=((1:Nat):Int) from rfl,and_nat y 1 (by omega) (by omega),Nat.and_one_is_mod]
 show _=ifI (bits .and .i64 _ 1) x
 rw [e]
 rcases Nat.mod_two_eq_zero_or_one y with h2 | h2 <;> rw [h2]
 ·rw [show (((0:Nat):Int))=0 from rfl,Int.zero_mul]
  rfl
 ·rw [show (((1:Nat):Int))=1 from rfl,Int.one_mul,IntWalk.i64_in _ (by omega)]
  rfl
set_option linter.unusedVariables false in
set_option maxRecDepth 100000 in
set_option maxHeartbeats 6400000 in
theorem iGarble (G O:Option Addr) (cg co:Nat) (gs:List Gt) (os:List Int) (s a:Int) (w:World) (hg:Cells w w.heap.size G (ints (flatG gs))) (ho:Cells w w.heap.size O (ints os)) (hok:circB gs os=true) (hm:os.length≤1000000) (ht:tapeOkB s a=true) (ha:a≤900000) :
  Calls Tryz.prog 50 #[.agg #[.slice G gs.length cg,.slice O os.length co],.agg #[.int .i64 s,.int .i64 a]] w (GivesG w (deltaI s a) (garTo s (deltaI s a) gs gs.length).1 (garTo s (deltaI s a) gs gs.length).2):=by
 obtain ⟨hn6,hgv,hov⟩:=circ_parts hok
 have HG:=hid hg
 have HO:=hid ho
 have HK:=hid (fun w hg ho=>iCircOk G O cg co gs os w hg ho (by omega) hm)
 rw [hok] at HK
 have HV:=hid hgv
 have ha9:decide ((900000:Int) < a)=false:=by simp; omega
 have HT6:=hid (fun w=>iTapeOk s a w)
 rw [ht] at HT6
 have HD:=hid (fun w=>iDeltaOf s a w ht ha)
 have HZ:=hid (fun k w hk=>iInputZero s a k w ht hk)
 clear hg ho hok hgv hov ht ha
 obtain ⟨d,hd⟩:∃ d,deltaI s a=d:=⟨_,rfl⟩
 have hdl:labelB d=true:=by rw [←hd]; exact delta_label s a
 rw [hd] at HD ⊢
 have HDL:=hid hdl
 clear hd hdl
 go_enter Tryz.func50,Tryz.ntmps50
 have b_0:=(Below.refl w.heap.size w)
 have s_0:=b_0.size
 go_upto_region 1 with fail
 refine wp_forget3 (w0:=w) (B:=w.heap.size) (b0:=w.heap.size) (t0:=40) (c0:=#[.slice G gs.length cg,.slice O os.length co]) (b1:=w.heap.size + 1) (t1:=27) (c1:=#[.int .i64 s,.int .i64 a]) (b2:=w.heap.size + 2) (t2:=76) (c2:=#[.int .i64 0,.slice none 0 0,.slice none 0 0]) ?_ ?_ ?_ ?_ ?_
 (focus exact blkcBy2)
 (focus exact blkcBy2)
 (focus exact blkcBy2)
 (focus (exact belBy))
 intro w1 x_1 t_1 r_1 hX1
 have sX1:=hX1.size
 have x_lt:=x_1.lt
 have t_lt:=t_1.lt
 have r_lt:=r_1.lt
 have b_1:=b_0.trans (hX1.mono (by omega))
 clear b_0 hX1
 have cell_x:=x_1.cell
 have froz_x:=x_1.frozen
 have lt_x:=x_1.lt
 have cell_t:=t_1.cell
 have froz_t:=t_1.frozen
 have lt_t:=t_1.lt
 have cell_r:=r_1.cell
 have froz_r:=r_1.frozen
 have lt_r:=r_1.lt
 go_wp2_with fail
 refine calls_forget0 (W:=w1) ?_ ?_
 (focus (exact belBy))
 intro X2 hX2
 have sX2:=hX2.size
 refine (HK.out _ ((HG.out.below (b_1.trans (hX2.mono (by omega)))).more (by omega)) ((HO.out.below (b_1.trans (hX2.mono (by omega)))).more (by omega))).mono ?_
 rintro e w2 ⟨rfl,hb2⟩
 have s2:=hb2.size
 have hT2:=hX2.trans (hb2.mono sX2)
 have b_2:=b_1.trans (hT2.mono (by omega))
 have x_2:=Blk.past hT2 x_1
 have t_2:=Blk.past hT2 t_1
 have r_2:=Blk.past hT2 r_1
 clear x_1 t_1 r_1 b_1 cell_x froz_x lt_x cell_t froz_t lt_t cell_r froz_r lt_r hX2 hT2 hb2
 have cell_x:=x_2.cell
 have froz_x:=x_2.frozen
 have lt_x:=x_2.lt
 have cell_t:=t_2.cell
 have froz_t:=t_2.frozen
 have lt_t:=t_2.lt
 have cell_r:=r_2.cell
 have froz_r:=r_2.frozen
 have lt_r:=r_2.lt
 go_wp2_with fail
 refine calls_forget0 (W:=w2) ?_ ?_
 (focus (exact belBy))
 intro X3 hX3
 have sX3:=hX3.size
 refine (HT6.out _).mono ?_
 rintro e w3 ⟨rfl,hb3⟩
 have s3:=hb3.size
 have hT3:=hX3.trans (hb3.mono sX3)
 have b_3:=b_2.trans (hT3.mono (by omega))
 have x_3:=Blk.past hT3 x_2
 have t_3:=Blk.past hT3 t_2
 have r_3:=Blk.past hT3 r_2
 clear x_2 t_2 r_2 b_2 cell_x froz_x lt_x cell_t froz_t lt_t cell_r froz_r lt_r hX3 hT3 hb3
 have cell_x:=x_3.cell
 have froz_x:=x_3.frozen
 have lt_x:=x_3.lt
 have cell_t:=t_3.cell
 have froz_t:=t_3.frozen
 have lt_t:=t_3.lt
 have cell_r:=r_3.cell
 have froz_r:=r_3.frozen
 have lt_r:=r_3.lt
 go_upto_region 4 with fail
 refine wp_forget1 (w0:=w3) (B:=w3.heap.size) (b0:=w3.heap.size) (t0:=76) (c0:=#[.int .i64 0,.slice none 0 0,.slice none 0 0]) ?_ ?_ ?_
 (focus exact blkcBy2)
 (focus (exact belBy))
 intro w4 g_4 hX4
 have sX4:=hX4.size
 have g_lt:=g_4.lt
 have b_4:=b_3.trans (hX4.mono (by omega))
 have x_4:=Blk.past hX4 x_3
 have t_4:=Blk.past hX4 t_3
 have r_4:=Blk.past hX4 r_3
 clear x_3 t_3 r_3 b_3 cell_x froz_x lt_x cell_t froz_t lt_t cell_r froz_r lt_r hX4
 have cell_x:=x_4.cell
 have froz_x:=x_4.frozen
 have lt_x:=x_4.lt
 have cell_t:=t_4.cell
 have froz_t:=t_4.frozen
 have lt_t:=t_4.lt
 have cell_r:=r_4.cell
 have froz_r:=r_4.frozen
 have lt_r:=r_4.lt
 have cell_g:=g_4.cell
 have froz_g:=g_4.frozen
 have lt_g:=g_4.lt
 go_wp2_with fail
 refine calls_forget0 (W:=w4) ?_ ?_
 (focus (exact belBy))
 intro X5 hX5
 have sX5:=hX5.size
 refine (HD.out _).mono ?_
 rintro e w5 ⟨rfl,hb5⟩
 have s5:=hb5.size
 have hT5:=hX5.trans (hb5.mono sX5)
 have b_5:=b_4.trans (hT5.mono (by omega))
 have x_5:=Blk.past hT5 x_4
 have t_5:=Blk.past hT5 t_4
 have r_5:=Blk.past hT5 r_4
 have g_5:=Blk.past hT5 g_4
 clear x_4 t_4 r_4 g_4 b_4 cell_x froz_x lt_x cell_t froz_t lt_t cell_r froz_r lt_r cell_g froz_g lt_g hX5 hT5 hb5
 have cell_x:=x_5.cell
 have froz_x:=x_5.frozen
 have lt_x:=x_5.lt
 have cell_t:=t_5.cell
 have froz_t:=t_5.frozen
 have lt_t:=t_5.lt
 have cell_r:=r_5.cell
 have froz_r:=r_5.frozen
 have lt_r:=r_5.lt
 have cell_g:=g_5.cell
 have froz_g:=g_5.frozen
 have lt_g:=g_5.lt
 go_upto_region 5 with fail
 refine wp_touch1 (w0:=w5) (L:=[w3.heap.size]) (b0:=w3.heap.size) (t0:=76) (c0:=#[.int .i64 d,.slice none 0 0,.slice none 0 0]) ?_ ?_ ?_
 (focus exact blkcBy2)
 (focus (exact tchBy))
 intro w6 g_6 hX6
 have sX6:=hX6.size
 have b_6:=hX6.below b_5 (by first | (simp; done) | (simp; omega))
 have x_6:=Blk.touch hX6 x_5 (by first | (simp; done) | (simp; omega))
 have t_6:=Blk.touch hX6 t_5 (by first | (simp; done) | (simp; omega))
 have r_6:=Blk.touch hX6 r_5 (by first | (simp; done) | (simp; omega))
 clear x_5 t_5 r_5 g_5 b_5 cell_x froz_x lt_x cell_t froz_t lt_t cell_r froz_r lt_r cell_g froz_g lt_g hX6
 have cell_x:=x_6.cell
 have froz_x:=x_6.frozen
 have lt_x:=x_6.lt
 have cell_t:=t_6.cell
 have froz_t:=t_6.frozen
 have lt_t:=t_6.lt
 have cell_r:=r_6.cell
 have froz_r:=r_6.frozen
 have lt_r:=r_6.lt
 have cell_g:=g_6.cell
 have froz_g:=g_6.frozen
 have lt_g:=g_6.lt
 obtain ⟨bg,hbg⟩:∃ n,w3.heap.size=n:=⟨_,rfl⟩
 rw [hbg] at g_6
 have H6:=hid (show GarM w w.heap.size (w.heap.size + 1) bg (w.heap.size + 2) TGb _ _ s a d [] [] none 0 none 0 w6 from
  ⟨x_6,t_6,g_6,r_6,own_none,own_none,(fun q hq=>by cases hq),b_6,by omega,by omega,by decide⟩)
 rw [hbg]
 clear x_6 t_6 g_6 r_6 b_6 cell_t froz_t lt_t cell_r froz_r lt_r cell_g froz_g lt_g hbg
 go_wp2_with fail
 go_loopw [7,8,9,10,11,12,13,38] (fun _ _ _ _ _ _ _ i wr=>∃ (j kz kt:Nat) (Z T:Option Addr),j≤gs.length∧i=.int .i64 (j:Int)∧GarM w w.heap.size (w.heap.size + 1) bg (w.heap.size + 2) TGb #[.slice G gs.length cg,.slice O os.length co] #[.int .i64 0,.slice none 0 0,.slice none 0 0] s a d (garTo s d gs j).1 (garTo s d gs j).2 Z kz T kt wr) (fun _ _ _ _ _ _ _ i _=>gs.length - (intOf i).toNat)
 case atStart=>exact ⟨0,0,0,none,none,Nat.zero_le _,rfl,H6.out⟩
 case round =>
  clear H6 cell_x froz_x lt_x
  obtain ⟨j,kz,kt,Z,T,hj,rfl,hI⟩:=hrel
  have hzl:=gar_zeros s d gs j
  have hlab:=gar_labels (s:=s) gs HDL.out j
  have htl:=gar_tables s d gs j hj
  have hal:andG (gs.take j)≤j:=by have h:=List.length_filter_le (fun g:Gt=>g.k == 4) (gs.take j); rw [List.length_take] at h; unfold andG; omega
  have cell_x:=hI.c.cell
  have froz_x:=hI.c.frozen
  have lt_x:=hI.c.lt
  have cell_t:=hI.t.cell
  have froz_t:=hI.t.frozen
  have lt_t:=hI.t.lt
  by_cases hlt:j < gs.length
  ·obtain ⟨⟨k,x,y⟩,hx⟩:∃ s,gs[j]? = some s:=⟨_,List.getElem?_eq_getElem hlt⟩
   have hgv:=gatesB_at HV.out hx
   rw [Nat.zero_add] at hgv
   have hst:=gar_step (s:=s) (d:=d) hx
   obtain ⟨bG,og,rfl,hBg,d0,d1,d2⟩:=gt_cells HG.out hI.bl hx
   have hbg:=hI.bl.size
   obtain ⟨st,hst0⟩:∃ c,garTo s d gs j=c:=⟨_,rfl⟩
   rw [hst0] at hI hzl hlab htl hst
   obtain ⟨zs,ts⟩:=st
   dsimp only at hI hzl hlab htl hst
   have hlt':(j:Int) < (gs.length:Int):=by omega
   have hj6:(j:Int) < 6000:=by omega
   have hzb:zs.length≤6000:=by omega
   have htb:ts.length≤12000:=by omega
   have j00:(0:Int)≤(j:Int):=by omega
   have HLAB:=hid hlab
   have HI:=hid hI
   have hzj:(zs.length:Int)=j:=by omega
   have HZL:=hid hzl
   clear hI hx hst0 hlab htl hzl
   have b_30:=(Below.refl wr.heap.size wr)
   have s_30:=b_30.size
   go_upto_region 8 with fail
   refine wp_forget1 (w0:=wr) (B:=wr.heap.size) (b0:=wr.heap.size) (t0:=96) (c0:=#[.int .i64 k,.int .i64 x,.int .i64 y]) ?_ ?_ ?_
   (focus exact blkcBy2)
   (focus (exact belBy))
   intro w31 q_31 hX31
   have sX31:=hX31.size
   have q_lt:=q_31.lt
   have b_31:=b_30.trans (hX31.mono (by omega))
   clear b_30 hX31
   have cell_q:=q_31.cell
   have froz_q:=q_31.frozen
   have lt_q:=q_31.lt
   have z31:=b_31.size
   have HI3:=hid (And.intro (HI.out.below b_31) q_31)
   clear b_31 q_31 HI d0 d1 d2 cell_x froz_x lt_x cell_t froz_t lt_t
   have hI3:=HI3.out.1
   have cell_t:=hI3.t.cell
   have froz_t:=hI3.t.frozen
   have lt_t:=hI3.t.lt
   clear hI3
   rcases gate_kind hgv with hk | hk | hk | hk | hk
   ·obtain rfl:k=1:=hk
    have hab:=(gate_is1 hgv rfl).1
    dsimp only at hab
    have HS:=hid (hst.trans (show _=(zs ++ [zeroI s x],ts) by rw [garT_no (show (1:Int)≠4 by decide),List.append_nil]; rfl))
    have hxz:inB x 0 1000000=true:=inB_iff.2 (by omega)
    clear hst hgv hzj
    go_wp2_with fail
    refine Calls.mono (HZ.out x _ hxz) ?_
    rintro e w5 ⟨rfl,hb⟩
    have HW:=hid (HI3.out.1.below hb)
    have z5:=hb.size
    clear hb hxz cell_q froz_q lt_q cell_t froz_t lt_t HI3
    go_upto_region 25 with fail
    have hbk:=HW.out.g
    have hzo:=HW.out.z
    have cell_g:=hbk.cell
    have froz_g:=hbk.frozen
    have lt_g:=hbk.lt
    have hne1:=hid (own_ne_obj hzo hbk (by decide))
    have hbl:=HW.out.bl.size
    have hb1:zs.length + 1≤1000000:=by omega
    go_wp2_with (at_builtin; refine app_ints rfl _ _ rfl (base:=w.heap.size) (L:=zs) (v:=Value.slice Z zs.length kz) rfl (hzo.alloc _) (by simp; omega) [zeroI s x] rfl rfl (top_cells _ [_] _) hb1 ?_)
    intro A1 k1 w8 ho8 hg8 hl8
    have kx8:=gr_blk hg8 (hbk.alloc _) hne1.out
    have cell_8:=kx8.cell
    have froz_8:=kx8.frozen
    have lt_8:=kx8.lt
    have HF:=hid (GarM.zero HW.out (by exact belBy) ho8 hg8 (fun q hq=>(hl8 q hq).imp id (fun e=>by omega)))
    clear ho8 hg8 hl8 kx8 hbk hzo cell_g froz_g lt_g hne1 hbl hb1
    go_wp2
    go_roundw
    case rel=>exact ⟨j + 1,k1,kt,A1,T,by omega,by go_num,by rw [HS.out]; exact HF.out⟩
    case measure=>simp [intOf]; omega
   ·obtain rfl:k=2:=hk
    have HS:=hid (hst.trans (show _=(zs ++ [zeroI s (1000 + (j:Int))],ts) by rw [garT_no (show (2:Int)≠4 by decide),List.append_nil]; rfl))
    have hxz:inB (1000 + (j:Int)) 0 1000000=true:=inB_iff.2 (by omega)
    clear hst hgv hzj
    go_wp2_with fail
    refine Calls.mono (HZ.out (1000 + (j:Int)) _ hxz) ?_
    rintro e w5 ⟨rfl,hb⟩
    have HW:=hid (HI3.out.1.below hb)
    have z5:=hb.size
    clear hb hxz cell_q froz_q lt_q cell_t froz_t lt_t HI3
    go_upto_region 25 with fail
    have hbk:=HW.out.g
    have hzo:=HW.out.z
    have cell_g:=hbk.cell
    have froz_g:=hbk.frozen
    have lt_g:=hbk.lt
    have hne1:=hid (own_ne_obj hzo hbk (by decide))
    have hbl:=HW.out.bl.size
    have hb1:zs.length + 1≤1000000:=by omega
    go_wp2_with (at_builtin; refine app_ints rfl _ _ rfl (base:=w.heap.size) (L:=zs) (v:=Value.slice Z zs.length kz) rfl (hzo.alloc _) (by simp; omega) [zeroI s (1000 + (j:Int))] rfl rfl (top_cells _ [_] _) hb1 ?_)
    intro A1 k1 w8 ho8 hg8 hl8
    have kx8:=gr_blk hg8 (hbk.alloc _) hne1.out
    have cell_8:=kx8.cell
    have froz_8:=kx8.frozen
    have lt_8:=kx8.lt
    have HF:=hid (GarM.zero HW.out (by exact belBy) ho8 hg8 (fun q hq=>(hl8 q hq).imp id (fun e=>by omega)))
    clear ho8 hg8 hl8 kx8 hbk hzo cell_g froz_g lt_g hne1 hbl hb1
    go_wp2
    go_roundw
    case rel=>exact ⟨j + 1,k1,kt,A1,T,by omega,by go_num,by rw [HS.out]; exact HF.out⟩
    case measure=>simp [intOf]; omega
   ·obtain rfl:k=3:=hk
    have hab:=gate_is34 hgv (.inl rfl)
    dsimp only at hab
    obtain ⟨x,rfl⟩:=Int.eq_ofNat_of_zero_le hab.1.1
    obtain ⟨y,rfl⟩:=Int.eq_ofNat_of_zero_le hab.2.1
    have hzx:zs[x]? = some (zs.getD x 0):=by rw [List.getD_eq_getElem?_getD,List.getElem?_eq_getElem (by omega)]; rfl
    have hzy:zs[y]? = some (zs.getD y 0):=by rw [List.getD_eq_getElem?_getD,List.getElem?_eq_getElem (by omega)]; rfl
    obtain ⟨bz,oz,rfl,hBz,hcz⟩:=Cells.at_ (Cells.of_own HI3.out.1.z) (ints_get hzx)
    have fx:=hcz _ _ (ints_get hzx)
    have hlx:=getD_label HLAB.out x
    have hxlt:(x:Int) < (zs.length:Int):=by omega
    have hx0:(0:Int)≤(x:Int):=by omega
    have fy:=hcz _ _ (ints_get hzy)
    have hly:=getD_label HLAB.out y
    have hylt:(y:Int) < (zs.length:Int):=by omega
    have hy0:(0:Int)≤(y:Int):=by omega
    obtain ⟨zx,ex⟩:∃ z,zs.getD x 0=z:=⟨_,rfl⟩
    obtain ⟨zy,ey⟩:∃ z,zs.getD y 0=z:=⟨_,rfl⟩
    rw [ex] at fx hlx
    rw [ey] at fy hly
    clear hcz hzx hzy
    have q1:=cell_q 1
    have q2:=cell_q 2
    have g1:=HI3.out.1.g.cell 1
    dsimp at g1 q1 q2
    have cell_g:=HI3.out.1.g.cell
    have froz_g:=HI3.out.1.g.frozen
    have lt_g:=HI3.out.1.g.lt
    have HS:=hid (hst.trans (show _=(zs ++ [xorI zx zy],ts) by rw [garT_no (show (3:Int)≠4 by decide),List.append_nil,←ex,←ey]; rfl))
    clear hst hgv hzj hab ex ey
    go_upto_region 15 with fail
    go_quiet (fail)
    go_upto_region 25 with fail
    refine wp_forget0 (w0:=w31) (B:=w31.heap.size) (by exact belBy) ?_
    intro w5 hb
    have HW:=hid (HI3.out.1.below hb)
    have z5:=hb.size
    clear hb g1 q1 q2 cell_g froz_g lt_g fx fy hlx hly hxlt hylt hx0 hy0 cell_q froz_q lt_q cell_t froz_t lt_t HI3
    have hbk:=HW.out.g
    have hzo:=HW.out.z
    have cell_g:=hbk.cell
    have froz_g:=hbk.frozen
    have lt_g:=hbk.lt
    have hne1:=hid (own_ne_obj hzo hbk (by decide))
    have hbl:=HW.out.bl.size
    have hb1:zs.length + 1≤1000000:=by omega
    go_wp2_with (at_builtin; refine app_ints rfl _ _ rfl (base:=w.heap.size) (L:=zs) (v:=Value.slice (some ⟨bz,oz,none⟩) zs.length kz) rfl (hzo.alloc _) (by simp; omega) [xorI zx zy] rfl rfl (top_cells _ [_] _) hb1 ?_)
    intro A1 k1 w8 ho8 hg8 hl8
    have kx8:=gr_blk hg8 (hbk.alloc _) hne1.out
    have cell_8:=kx8.cell
    have froz_8:=kx8.frozen
    have lt_8:=kx8.lt
    have HF:=hid (GarM.zero HW.out (by exact belBy) ho8 hg8 (fun q hq=>(hl8 q hq).imp id (fun e=>by omega)))
    clear ho8 hg8 hl8 kx8 hbk hzo cell_g froz_g lt_g hne1 hbl hb1
    go_wp2
    go_roundw
    case rel=>exact ⟨j + 1,k1,kt,A1,T,by omega,by go_num,by rw [HS.out]; exact HF.out⟩
    case measure=>simp [intOf]; omega
   ·obtain rfl:k=4:=hk
    have hab:=gate_is34 hgv (.inr rfl)
    dsimp only at hab
    obtain ⟨x,rfl⟩:=Int.eq_ofNat_of_zero_le hab.1.1
    obtain ⟨y,rfl⟩:=Int.eq_ofNat_of_zero_le hab.2.1
    have hzx:zs[x]? = some (zs.getD x 0):=by rw [List.getD_eq_getElem?_getD,List.getElem?_eq_getElem (by omega)]; rfl
    have hzy:zs[y]? = some (zs.getD y 0):=by rw [List.getD_eq_getElem?_getD,List.getElem?_eq_getElem (by omega)]; rfl
    obtain ⟨bz,oz,rfl,hBz,hcz⟩:=Cells.at_ (Cells.of_own HI3.out.1.z) (ints_get hzx)
    have fx:=hcz _ _ (ints_get hzx)
    have hlx:=getD_label HLAB.out x
    have hxlt:(x:Int) < (zs.length:Int):=by omega
    have hx0:(0:Int)≤(x:Int):=by omega
    have fy:=hcz _ _ (ints_get hzy)
    have hly:=getD_label HLAB.out y
    have hylt:(y:Int) < (zs.length:Int):=by omega
    have hy0:(0:Int)≤(y:Int):=by omega
    obtain ⟨zx,ex⟩:∃ z,zs.getD x 0=z:=⟨_,rfl⟩
    obtain ⟨zy,ey⟩:∃ z,zs.getD y 0=z:=⟨_,rfl⟩
    rw [ex] at fx hlx
    rw [ey] at fy hly
    clear hcz hzx hzy
    have q1:=cell_q 1
    have q2:=cell_q 2
    have g1:=HI3.out.1.g.cell 1
    dsimp at g1 q1 q2
    have cell_g:=HI3.out.1.g.cell
    have froz_g:=HI3.out.1.g.frozen
    have lt_g:=HI3.out.1.g.lt
    have hn0:inB (2 * (j:Int)) 0 1000000=true:=inB_iff.2 (by omega)
    have hn1:inB (2 * (j:Int) + 1) 0 1000000=true:=inB_iff.2 (by omega)
    have hxd:=xorI_label hlx HDL.out
    have hyd:=xorI_label hly HDL.out
    have K1:=hid (fun w=>iHash zx (2 * (j:Int)) w hlx hn0)
    have K2:=hid (fun w=>iHash (bits .xor .i64 zx d) (2 * (j:Int)) w hxd hn0)
    have K3:=hid (fun w=>iHash zy (2 * (j:Int) + 1) w hly hn1)
    have K4:=hid (fun w=>iHash (bits .xor .i64 zy d) (2 * (j:Int) + 1) w hyd hn1)
    have L1:=hash_label zx (2 * (j:Int))
    have L2:=hash_label (bits .xor .i64 zx d) (2 * (j:Int))
    have L3:=hash_label zy (2 * (j:Int) + 1)
    have L4:=hash_label (bits .xor .i64 zy d) (2 * (j:Int) + 1)
    obtain ⟨h1,e1⟩:∃ h,hashI zx (2 * (j:Int))=h:=⟨_,rfl⟩
    obtain ⟨h2,e2⟩:∃ h,hashI (bits .xor .i64 zx d) (2 * (j:Int))=h:=⟨_,rfl⟩
    obtain ⟨h3,e3⟩:∃ h,hashI zy (2 * (j:Int) + 1)=h:=⟨_,rfl⟩
    obtain ⟨h4,e4⟩:∃ h,hashI (bits .xor .i64 zy d) (2 * (j:Int) + 1)=h:=⟨_,rfl⟩
    rw [e1] at K1 L1
    rw [e2] at K2 L2
    rw [e3] at K3 L3
    rw [e4] at K4 L4
    have M1:=mul_if hly HDL.out
    obtain ⟨m1,f1⟩:∃ m,ifI (oneI zy) d=m:=⟨_,rfl⟩
    have N1:=ifI_label (b:=oneI zy) HDL.out
    rw [f1] at M1 N1
    have M2:=mul_if hlx (xor_label (xor_label L1 L2) N1)
    obtain ⟨m2,f2⟩:∃ m,ifI (oneI zx) (bits .xor .i64 (bits .xor .i64 h1 h2) m1)=m:=⟨_,rfl⟩
    rw [f2] at M2
    have M3:=mul_if hly (xor_label (xor_label (xor_label L3 L4) hlx) hlx)
    obtain ⟨m3,f3⟩:∃ m,ifI (oneI zy) (bits .xor .i64 (bits .xor .i64 (bits .xor .i64 h3 h4) zx) zx)=m:=⟨_,rfl⟩
    rw [f3] at M3
    have HS:=hid (hst.trans (show _=(zs ++ [bits .xor .i64 (bits .xor .i64 (bits .xor .i64 h1 h3) m2) m3],ts ++ [bits .xor .i64 (bits .xor .i64 h1 h2) m1,bits .xor .i64 (bits .xor .i64 h3 h4) zx]) by rw [←f3,←f2,←f1,←e1,←e2,←e3,←e4,←ex,←ey]; rfl))
    clear hst hgv hzj hab ex ey e1 e2 e3 e4 f1 f2 f3 L1 L2 L3 L4 N1 hlx hly hxd hyd hn0 hn1
    have HGB:=hid HI3.out.1.g
    go_upto_region 21 with fail
    have qg:=fun (x:Later w31) (o:Nat)=>(HGB.out.past x.below).cell o
    refine wp_region_later (by kernel_rfl) (by kernel_rfl) ?_
    repeat (go_big_quiet_step (first | (go_at_call 106; with_reducible exact Calls.later_same (K1.out _)) | (go_at_call 106; with_reducible exact Calls.later_same (K2.out _))))
    refine wpQuiet_nil ?_
    rintro _ ⟨⟨w41,hb41⟩,rfl⟩
    try dsimp only
    have z41:=hb41.size
    clear qg
    go_upto_region 22 with fail
    refine wp_forget0 (w0:=w31) (B:=w31.heap.size) (by exact belBy) ?_
    intro w43 hb43
    have z43:=hb43.size
    have HGC:=hid (HGB.out.past hb43)
    have qg:=fun (x:Later w43) (o:Nat)=>(HGC.out.past x.below).cell o
    refine wp_region_later (by kernel_rfl) (by kernel_rfl) ?_
    repeat (go_big_quiet_step (first | (go_at_call 106; with_reducible exact Calls.later_same (K3.out _)) | (go_at_call 106; with_reducible exact Calls.later_same (K4.out _))))
    refine wpQuiet_nil ?_
    rintro _ ⟨⟨w44,hb44⟩,rfl⟩
    try dsimp only
    clear qg HGC HGB
    go_upto_region 23 with fail
    refine wp_forget0 (w0:=w31) (B:=w31.heap.size) (by exact belBy) ?_
    intro w4 hb
    have HW:=hid (HI3.out.1.below hb)
    have z5:=hb.size
    clear hb g1 q1 q2 cell_g froz_g lt_g fx fy hxlt hylt hx0 hy0 cell_q froz_q lt_q cell_t froz_t lt_t HI3
    have hbk:=HW.out.g
    have hzo:=HW.out.ta
    have cell_g:=hbk.cell
    have froz_g:=hbk.frozen
    have lt_g:=hbk.lt
    have hne1:=hid (own_ne_obj hzo hbk (by decide))
    have hbl:=HW.out.bl.size
    have hb1:ts.length + 2≤1000000:=by omega
    go_wp2_with (at_builtin; refine app_ints rfl _ _ rfl (base:=w.heap.size) (L:=ts) (v:=Value.slice T ts.length kt) rfl (hzo.alloc _) (by simp; omega) [bits .xor .i64 (bits .xor .i64 h1 h2) m1,bits .xor .i64 (bits .xor .i64 h3 h4) zx] rfl rfl (top_cells _ [_,_] _) hb1 ?_)
    intro A1 k1 w8 ho8 hg8 hl8
    have kx8:=gr_blk hg8 (hbk.alloc _) hne1.out
    have cell_8:=kx8.cell
    have froz_8:=kx8.frozen
    have lt_8:=kx8.lt
    have HF:=hid (GarM.tab HW.out (by exact belBy) ho8 hg8 (fun q hq=>(hl8 q hq).imp id (fun e=>by omega)))
    clear ho8 hg8 hl8 kx8 hbk hzo cell_g froz_g lt_g hne1 hbl hb1
    go_wp2_with fail
    refine Calls.mono (K1.out _) ?_
    rintro e w' ⟨rfl,rfl⟩
    go_wp2_with fail
    refine Calls.mono (K3.out _) ?_
    rintro e w' ⟨rfl,rfl⟩
    go_upto_region 25 with fail
    obtain ⟨w5,hw5⟩:∃ z,w8.setCell ⟨bg,2,none⟩ (Value.slice A1 (ts.length + 2) k1)=z:=⟨_,rfl⟩
    rw [hw5] at HF ⊢
    have HW:=HF
    obtain ⟨T,hT⟩:∃ q,A1=q:=⟨_,rfl⟩
    obtain ⟨kt,hkt⟩:∃ q,k1=q:=⟨_,rfl⟩
    rw [hT,hkt] at HW
    clear hw5 HF cell_8 froz_8 lt_8 hT hkt
    have hbk:=HW.out.g
    have hzo:=HW.out.z
    have cell_g:=hbk.cell
    have froz_g:=hbk.frozen
    have lt_g:=hbk.lt
    have hne1:=hid (own_ne_obj hzo hbk (by decide))
    have hbl:=HW.out.bl.size
    have hb1:zs.length + 1≤1000000:=by omega
    go_wp2_with (at_builtin; refine app_ints rfl _ _ rfl (base:=w.heap.size) (L:=zs) (v:=Value.slice (some ⟨bz,oz,none⟩) zs.length kz) rfl (hzo.alloc _) (by simp; omega) [bits .xor .i64 (bits .xor .i64 (bits .xor .i64 h1 h3) m2) m3] rfl rfl (top_cells _ [_] _) hb1 ?_)
    intro A1 k1 w8 ho8 hg8 hl8
    have kx8:=gr_blk hg8 (hbk.alloc _) hne1.out
    have cell_8:=kx8.cell
    have froz_8:=kx8.frozen
    have lt_8:=kx8.lt
    have HF:=hid (GarM.zero HW.out (by exact belBy) ho8 hg8 (fun q hq=>(hl8 q hq).imp id (fun e=>by omega)))
    clear ho8 hg8 hl8 kx8 hbk hzo cell_g froz_g lt_g hne1 hbl hb1
    go_wp2
    go_roundw
    case rel=>exact ⟨j + 1,k1,kt,A1,T,by omega,by go_num,by rw [HS.out]; exact HF.out⟩
    case measure=>simp [intOf]; omega
   ·obtain rfl:k=5:=hk
    have hab:=(gate_is5 hgv rfl).1
    dsimp only at hab
    obtain ⟨x,rfl⟩:=Int.eq_ofNat_of_zero_le hab.1
    have hzx:zs[x]? = some (zs.getD x 0):=by rw [List.getD_eq_getElem?_getD,List.getElem?_eq_getElem (by omega)]; rfl
    obtain ⟨bz,oz,rfl,hBz,hcz⟩:=Cells.at_ (Cells.of_own HI3.out.1.z) (ints_get hzx)
    have fx:=hcz _ _ (ints_get hzx)
    have hlx:=getD_label HLAB.out x
    have hxlt:(x:Int) < (zs.length:Int):=by omega
    have hx0:(0:Int)≤(x:Int):=by omega
    obtain ⟨zx,ex⟩:∃ z,zs.getD x 0=z:=⟨_,rfl⟩
    rw [ex] at fx hlx
    clear hcz hzx
    have q1:=cell_q 1
    have g1:=HI3.out.1.g.cell 1
    dsimp at g1 q1
    have cell_g:=HI3.out.1.g.cell
    have froz_g:=HI3.out.1.g.frozen
    have lt_g:=HI3.out.1.g.lt
    have HS:=hid (hst.trans (show _=(zs ++ [xorI zx d],ts) by rw [garT_no (show (5:Int)≠4 by decide),List.append_nil,←ex]; rfl))
    clear hst hgv hzj hab ex
    have g0:=HI3.out.1.g.cell 0
    dsimp at g0
    go_upto_region 17 with fail
    go_quiet (fail)
    go_upto_region 25 with fail
    refine wp_forget0 (w0:=w31) (B:=w31.heap.size) (by exact belBy) ?_
    intro w5 hb
    have HW:=hid (HI3.out.1.below hb)
    have z5:=hb.size
    clear hb g0 g1 q1 cell_g froz_g lt_g fx hlx hxlt hx0 cell_q froz_q lt_q cell_t froz_t lt_t HI3
    have hbk:=HW.out.g
    have hzo:=HW.out.z
    have cell_g:=hbk.cell
    have froz_g:=hbk.frozen
    have lt_g:=hbk.lt
    have hne1:=hid (own_ne_obj hzo hbk (by decide))
    have hbl:=HW.out.bl.size
    have hb1:zs.length + 1≤1000000:=by omega
    go_wp2_with (at_builtin; refine app_ints rfl _ _ rfl (base:=w.heap.size) (L:=zs) (v:=Value.slice (some ⟨bz,oz,none⟩) zs.length kz) rfl (hzo.alloc _) (by simp; omega) [xorI zx d] rfl rfl (top_cells _ [_] _) hb1 ?_)
    intro A1 k1 w8 ho8 hg8 hl8
    have kx8:=gr_blk hg8 (hbk.alloc _) hne1.out
    have cell_8:=kx8.cell
    have froz_8:=kx8.frozen
    have lt_8:=kx8.lt
    have HF:=hid (GarM.zero HW.out (by exact belBy) ho8 hg8 (fun q hq=>(hl8 q hq).imp id (fun e=>by omega)))
    clear ho8 hg8 hl8 kx8 hbk hzo cell_g froz_g lt_g hne1 hbl hb1
    go_wp2
    go_roundw
    case rel=>exact ⟨j + 1,k1,kt,A1,T,by omega,by go_num,by rw [HS.out]; exact HF.out⟩
    case measure=>simp [intOf]; omega
  ·obtain rfl:j=gs.length:=by omega
   have hbk:=hI.g
   have cell_g:=hbk.cell
   have froz_g:=hbk.frozen
   have lt_g:=hbk.lt
   have cell_r:=hI.r.cell
   have froz_r:=hI.r.frozen
   have lt_r:=hI.r.lt
   have hne:bg≠w.heap.size + 2:=hI.hr.symm
   have hne2:w.heap.size + 2≠bg:=hI.hr
   have HI:=hid hI
   clear hI hbk hlab hzl htl hal
   go_wp2
   ((try simp only [Exit.inBlock,Exit.then]); apply bodyPost_ret0; focus ((try simp only [results,Tryz.results50]); (try go_simp); (try rfl)))
   exact HI.out.give (by exact tchBy) (by omega)
end Go.Proofs.YtihbaieiempjeaaGreat
