/- Lemmas of the proof: PubM, RunP, RunQ, InsL, Gev, OptV, SecP. -/
import Derived.Test.YtihbaieiempjeaaGreatC16
import Derived.Test.YtihbaieiempjeaaGreatC0
import Derived.Test.YtihbaieiempjeaaGreatC6
import Derived.Test.YtihbaieiempjeaaGreatC7
import Derived.Test.YtihbaieiempjeaaGreatC8
import Derived.Test.YtihbaieiempjeaaGreatC5
namespace Go.Proofs.YtihbaieiempjeaaGreat
open Go.RowKit
theorem blk_ne {w:World} {b c t u:Nat} {cs ds:Array Value} (h:Blk w b t cs) (k:Blk w c u ds) (hne:t≠u):b≠c:=fun e=>by
 subst e
 unfold Blk at h k
 rw [h] at k
 injection k with k
 injection k with _ k _
 exact hne k
structure PubM (w:World) (bc bg br bp:Nat) (cs gc rs:Array Value) (ts ks ds:List Int) (T:Option Addr) (ct:Nat) (K:Option Addr) (kk:Nat) (D:Option Addr) (kd:Nat) (wr:World):Prop where
 c:Blk wr bc TS cs
 g:Blk wr bg TGb gc
 r:Blk wr br TPb rs
 p:Blk wr bp TPb #[.slice T ts.length ct,.slice K ks.length kk,.slice D ds.length kd]
 t:wr.ownsRow w.heap.size 3 1 (.slice T ts.length ct) ts.length (ints ts)
 k:wr.ownsRow w.heap.size 3 1 (.slice K ks.length kk) ks.length (ints ks)
 d:wr.ownsRow w.heap.size 3 1 (.slice D ds.length kd) ds.length (ints ds)
 tk:∀ q,(Value.slice T ts.length ct).ownBlock=some q→(Value.slice K ks.length kk).ownBlock=some q→False
 td:∀ q,(Value.slice T ts.length ct).ownBlock=some q→(Value.slice D ds.length kd).ownBlock=some q→False
 kd:∀ q,(Value.slice K ks.length kk).ownBlock=some q→(Value.slice D ds.length kd).ownBlock=some q→False
 bl:Below w.heap.size w wr
 lp:w.heap.size≤bp
 hr:br≠bp
section
variable {w:World} {bc bg br bp:Nat} {cs gc rs:Array Value} {ts ks ds:List Int} {T:Option Addr} {ct:Nat} {K:Option Addr} {kk:Nat} {D:Option Addr} {kd:Nat} {wr w':World}
theorem PubM.below (h:PubM w bc bg br bp cs gc rs ts ks ds T ct K kk D kd wr) (hb:Below wr.heap.size wr w'):PubM w bc bg br bp cs gc rs ts ks ds T ct K kk D kd w' :=
 ⟨h.c.past hb,h.g.past hb,h.r.past hb,h.p.past hb,own_below h.t hb,own_below h.k hb,own_below h.d hb,h.tk,h.td,h.kd,h.bl.trans (hb.mono h.bl.size),h.lp,h.hr⟩
theorem PubM.con {v:Int} {A:Option Addr} {k':Nat} {w5 X:World} (h:PubM w bc bg br bp cs gc rs ts ks ds T ct K kk D kd wr) (hX:Below wr.heap.size wr X) (h1:w5.ownsRow w.heap.size 3 1 (.slice A (ks.length + 1) k') (ks.length + 1) (ints (ks ++ [v]))) (h2:X.grownBy w5 (Value.slice K ks.length kk).ownBlock)
  (h3:∀ q,(Value.slice A (ks.length + 1) k').ownBlock=some q→(Value.slice K ks.length kk).ownBlock=some q∨wr.heap.size≤q):PubM w bc bg br bp cs gc rs ts (ks ++ [v]) ds T ct A k' D kd (w5.setCell ⟨bp,1,none⟩ (.slice A (ks.length + 1) k')):=by
 have hl:(ks ++ [v]).length=ks.length + 1:=by simp
 have hsz:=h.bl.size
 have h2:=below_grown hX h2
 have c5:=gr_blk h2 h.c (own_ne_obj h.k h.c (by decide))
 have g5:=gr_blk h2 h.g (own_ne_obj h.k h.g (by decide))
 have p5:=gr_blk h2 h.p (own_ne_obj h.k h.p (by decide))
 have r5:=gr_blk h2 h.r (own_ne_obj h.k h.r (by decide))
 have o1:=gr_own h2 h.t (fun q p hq hp e=>by subst e; exact h.tk q hp hq)
 have o2:=gr_own h2 h.d (fun q p hq hp e=>by subst e; exact h.kd q hq hp)
 have b5:Below w.heap.size w w5:=gr_below h2 h.bl hsz (fun q hq=>by have:=(own_in h.k q hq).1; omega)
 have ts5:Touch [bp] w5 (w5.setCell ⟨bp,1,none⟩ (.slice A (ks.length + 1) k')):=(Touch.refl _ _).set_ _ _ (by simp)
 have hm:∀ q,q≠bp→q ∉ [bp]:=fun q hq=>by simp [hq]
 have hbc:bc≠bp:=blk_ne h.c h.p (by decide)
 have hbg:bg≠bp:=blk_ne h.g h.p (by decide)
 refine ⟨Blk.touch ts5 c5 (hm _ hbc),Blk.touch ts5 g5 (hm _ hbg),Blk.touch ts5 r5 (hm _ h.hr),?_,own_touch' ts5 o1 (fun q hq=>hm q (own_ne_obj o1 p5 (by decide) q hq)),?_,own_touch' ts5 o2 (fun q hq=>hm q (own_ne_obj o2 p5 (by decide) q hq)),?_,h.td,?_,ts5.below' b5 (fun i hi=>by simp at hi; have:=h.lp; omega) b5.size,h.lp,h.hr⟩
 ·rw [hl]
  exact p5.set_ 1 _
 ·rw [hl]
  exact own_touch' ts5 h1 (fun q hq=>hm q (own_ne_obj h1 p5 (by decide) q hq))
 ·intro q hq hp
  rw [hl] at hp
  rcases h3 q hp with h3 | h3
  ·exact h.tk _ hq h3
  ·have:=(own_in h.t q hq).2
   omega
 ·intro q hq hp
  rw [hl] at hq
  rcases h3 q hq with h3 | h3
  ·exact h.kd _ h3 hp
  ·have:=(own_in h.d q hp).2
   omega
theorem PubM.dec {v:Int} {A:Option Addr} {k':Nat} {w5 X:World} (h:PubM w bc bg br bp cs gc rs ts ks ds T ct K kk D kd wr) (hX:Below wr.heap.size wr X) (h1:w5.ownsRow w.heap.size 3 1 (.slice A (ds.length + 1) k') (ds.length + 1) (ints (ds ++ [v]))) (h2:X.grownBy w5 (Value.slice D ds.length kd).ownBlock)
  (h3:∀ q,(Value.slice A (ds.length + 1) k').ownBlock=some q→(Value.slice D ds.length kd).ownBlock=some q∨wr.heap.size≤q):PubM w bc bg br bp cs gc rs ts ks (ds ++ [v]) T ct K kk A k' (w5.setCell ⟨bp,2,none⟩ (.slice A (ds.length + 1) k')):=by
 have hl:(ds ++ [v]).length=ds.length + 1:=by simp
 have hsz:=h.bl.size
 have h2:=below_grown hX h2
 have c5:=gr_blk h2 h.c (own_ne_obj h.d h.c (by decide))
 have g5:=gr_blk h2 h.g (own_ne_obj h.d h.g (by decide))
 have p5:=gr_blk h2 h.p (own_ne_obj h.d h.p (by decide))
 have r5:=gr_blk h2 h.r (own_ne_obj h.d h.r (by decide))
 have o1:=gr_own h2 h.t (fun q p hq hp e=>by subst e; exact h.td q hp hq)
 have o2:=gr_own h2 h.k (fun q p hq hp e=>by subst e; exact h.kd q hp hq)
 have b5:Below w.heap.size w w5:=gr_below h2 h.bl hsz (fun q hq=>by have:=(own_in h.d q hq).1; omega)
 have ts5:Touch [bp] w5 (w5.setCell ⟨bp,2,none⟩ (.slice A (ds.length + 1) k')):=(Touch.refl _ _).set_ _ _ (by simp)
 have hm:∀ q,q≠bp→q ∉ [bp]:=fun q hq=>by simp [hq]
 have hbc:bc≠bp:=blk_ne h.c h.p (by decide)
 have hbg:bg≠bp:=blk_ne h.g h.p (by decide)
 refine ⟨Blk.touch ts5 c5 (hm _ hbc),Blk.touch ts5 g5 (hm _ hbg),Blk.touch ts5 r5 (hm _ h.hr),?_,own_touch' ts5 o1 (fun q hq=>hm q (own_ne_obj o1 p5 (by decide) q hq)),own_touch' ts5 o2 (fun q hq=>hm q (own_ne_obj o2 p5 (by decide) q hq)),?_,h.tk,?_,?_,ts5.below' b5 (fun i hi=>by simp at hi; have:=h.lp; omega) b5.size,h.lp,h.hr⟩
 ·rw [hl]
  exact p5.set_ 2 _
 ·rw [hl]
  exact own_touch' ts5 h1 (fun q hq=>hm q (own_ne_obj h1 p5 (by decide) q hq))
 ·intro q hq hp
  rw [hl] at hp
  rcases h3 q hp with h3 | h3
  ·exact h.td _ hq h3
  ·have:=(own_in h.t q hq).2
   omega
 ·intro q hq hp
  rw [hl] at hp
  rcases h3 q hp with h3 | h3
  ·exact h.kd _ hq h3
  ·have:=(own_in h.k q hq).2
   omega
end
def GivesP (w:World) (ts ks ds:List Int) (e:Ending) (w':World):Prop :=
 ∃ T ct K kk D kd,e=.returned (.tuple #[.agg #[.slice T ts.length ct,.slice K ks.length kk,.slice D ds.length kd],.bool true])∧w'.ownsRow w.heap.size 3 1 (.slice T ts.length ct) ts.length (ints ts) ∧
  w'.ownsRow w.heap.size 3 1 (.slice K ks.length kk) ks.length (ints ks)∧w'.ownsRow w.heap.size 3 1 (.slice D ds.length kd) ds.length (ints ds)∧Below w.heap.size w w'
theorem PubM.give {w:World} {bc bg br bp:Nat} {cs gc rs:Array Value} {ts ks ds:List Int} {T:Option Addr} {ct:Nat} {K:Option Addr} {kk:Nat} {D:Option Addr} {kd:Nat} {wr w5:World} (h:PubM w bc bg br bp cs gc rs ts ks ds T ct K kk D kd wr) (ht:Touch [br] wr w5) (hb:w.heap.size≤br) :
  GivesP w ts ks ds (.returned (.tuple #[.agg #[.slice T ts.length ct,.slice K ks.length kk,.slice D ds.length kd],.bool true])) w5:=by
 have hm:∀ q,q≠br→q ∉ [br]:=fun q hq=>by simp [hq]
 exact ⟨T,ct,K,kk,D,kd,rfl,own_touch' ht h.t (fun q hq=>hm q (own_ne_obj h.t h.r (by decide) q hq)),own_touch' ht h.k (fun q hq=>hm q (own_ne_obj h.k h.r (by decide) q hq)),own_touch' ht h.d (fun q hq=>hm q (own_ne_obj h.d h.r (by decide) q hq)),
  ht.below' h.bl (fun i hi=>by simp at hi; omega) h.bl.size⟩
open Go.RowKit
abbrev TSa:Nat:=69
theorem op15:∀ a:Nat,a < 16→∀ b:Nat,b < 16→bits .and .i64 ((a:Int) + b) 15=((a:Int) + b) % 16∧bits .and .i64 ((a:Int) - b) 15=((a:Int) - b) % 16∧bits .and .i64 ((a:Int) * b) 15=((a:Int) * b) % 16:=by
 decide +kernel
theorem op_nib:∀ a:Nat,a < 16→∀ b:Nat,b < 16→(0≤bits .and .i64 (a:Int) b∧bits .and .i64 (a:Int) b≤15)∧(0≤bits .xor .i64 (a:Int) b∧bits .xor .i64 (a:Int) b≤15):=by
 decide +kernel
theorem nib_nat {a:Int} (h:inB a 0 15=true):∃ n:Nat,n < 16∧a=n:=by
 have h:=inB_iff.1 h
 exact ⟨a.toNat,by omega,by omega⟩
theorem opI_nib {o a b:Int} (ha:inB a 0 15=true) (hb:inB b 0 15=true):inB (opI o a b) 0 15=true:=by
 obtain ⟨x,hx,rfl⟩:=nib_nat ha
 obtain ⟨y,hy,rfl⟩:=nib_nat hb
 obtain ⟨h1,h2⟩:=op_nib x hx y hy
 unfold opI
 split
 ·exact inB_iff.2 (by omega)
 split
 ·exact inB_iff.2 (by omega)
 split
 ·exact inB_iff.2 ⟨Int.emod_nonneg _ (by decide),by have:=Int.emod_lt_of_pos ((x:Int) * y) (show (0:Int) < 16 by decide); omega⟩
 split
 ·exact inB_iff.2 h1
 split
 ·exact inB_iff.2 h2
 split
 ·split <;> decide
 ·split <;> decide
theorem sIf1 (q:Bool) (w:World):Calls Tryz.prog 152 #[.bool q] w fun e w'=>e=.returned (.int .i64 (pick q 1 0))∧w=w':=by
 cases q
 all_goals
  go_enter Tryz.func152,Tryz.ntmps152
  go_wp2
  go_ret
  exact ⟨rfl,rfl⟩
set_option maxHeartbeats 1600000 in
theorem sOperate (o a b:Int) (w:World) (ho:3≤o∧o≤9) (ha:inB a 0 15=true) (hb:inB b 0 15=true) :
  Calls Tryz.prog 88 #[.int .i64 o,.int .i64 a,.int .i64 b] w fun e w'=>e=.returned (.int .i64 (opI o a b))∧w=w':=by
 obtain ⟨x,hx,rfl⟩:=nib_nat ha
 obtain ⟨y,hy,rfl⟩:=nib_nat hb
 obtain ⟨h1,h2,h3⟩:=op15 x hx y hy
 have hm:(0:Int)≤(x:Int) * y∧(x:Int) * y≤225:=by
  have e:((x * y:Nat):Int)=(x:Int) * y:=by simp
  have:=Nat.mul_le_mul (show x≤15 by omega) (show y≤15 by omega)
  omega
 obtain ⟨z,hz⟩:∃ z,(x:Int) * y=z:=⟨_,rfl⟩
 rw [hz] at h3 hm
 have hzw:IntKind.i64.wrap ((x:Int) * y)=z:=by rw [hz]; exact IntWalk.i64_in _ (by omega)
 rcases (show o=3∨o=4∨o=5∨o=6∨o=7∨o=8∨o=9 by omega) with rfl | rfl | rfl | rfl | rfl | rfl | rfl
 ·go_enter Tryz.func88,Tryz.ntmps88
  go_wp2_with (go_at_call 123; refine (sWithin _ _ _ _).mono ?_; rintro e w' ⟨rfl,rfl⟩)
  go_ret
  exact ⟨ret_int rfl,rfl⟩
 ·go_enter Tryz.func88,Tryz.ntmps88
  go_wp2_with (go_at_call 123; refine (sWithin _ _ _ _).mono ?_; rintro e w' ⟨rfl,rfl⟩)
  go_ret
  exact ⟨ret_int rfl,rfl⟩
 ·go_enter Tryz.func88,Tryz.ntmps88
  go_wp2_with (go_at_call 123; refine (sWithin _ _ _ _).mono ?_; rintro e w' ⟨rfl,rfl⟩)
  go_ret
  exact ⟨ret_int (by rw [←hz]; rfl),rfl⟩
 ·go_enter Tryz.func88,Tryz.ntmps88
  go_wp2_with (go_at_call 123; refine (sWithin _ _ _ _).mono ?_; rintro e w' ⟨rfl,rfl⟩)
  go_ret
  exact ⟨rfl,rfl⟩
 ·go_enter Tryz.func88,Tryz.ntmps88
  go_wp2_with (go_at_call 123; refine (sWithin _ _ _ _).mono ?_; rintro e w' ⟨rfl,rfl⟩)
  go_ret
  exact ⟨rfl,rfl⟩
 ·by_cases hxy:(x:Int) < y
  all_goals
   go_enter Tryz.func88,Tryz.ntmps88
   go_wp2_with first | (go_at_call 123; refine (sWithin _ _ _ _).mono ?_; rintro e w' ⟨rfl,rfl⟩) | (go_at_call 152; refine (sIf1 _ _).mono ?_; rintro e w' ⟨rfl,rfl⟩)
   go_ret
   exact ⟨ret_int (by unfold opI; simp [hxy,pick]),rfl⟩
 ·by_cases hxy:(x:Int)=y
  all_goals
   go_enter Tryz.func88,Tryz.ntmps88
   go_wp2_with first | (go_at_call 123; refine (sWithin _ _ _ _).mono ?_; rintro e w' ⟨rfl,rfl⟩) | (go_at_call 152; refine (sIf1 _ _).mono ?_; rintro e w' ⟨rfl,rfl⟩)
   go_ret
   exact ⟨ret_int (by unfold opI; simp [hxy,pick]),rfl⟩
theorem sStateOk (R O:Option Addr) (cr co:Nat) (rs os:List Int) (w:World) (hr:Cells w w.heap.size R (ints rs)) (ho:Cells w w.heap.size O (ints os)) (h8:rs.length=8) (h1:nbB rs=true) (h2:nbB os=true) (hn:os.length≤1000000) :
  Calls Tryz.prog 86 #[.agg #[.slice R 8 cr,.slice O os.length co]] w fun e w'=>e=.returned (.bool true)∧Below w.heap.size w w':=by
 have HC:=hid (And.intro hr ho)
 have H1:=hid (fun w hc=>sNib R cr rs w hc (by omega))
 have H2:=hid (fun w hc=>sNib O co os w hc (by omega))
 rw [h1,h8] at H1
 rw [h2] at H2
 clear hr ho h8 h1 h2
 go_enter Tryz.func86,Tryz.ntmps86
 have b_0:=(Below.refl w.heap.size w)
 have s_0:=b_0.size
 go_upto_region 1 with fail
 refine wp_forget1 (w0:=w) (B:=w.heap.size) (b0:=w.heap.size) (t0:=69) (c0:=#[.slice R 8 cr,.slice O os.length co]) ?_ ?_ ?_
 (focus exact blkcBy)
 (focus (exact belBy))
 intro w1 x_1 hX1
 have sX1:=hX1.size
 have x_lt:=x_1.lt
 have b_1:=b_0.trans (hX1.mono (by omega))
 clear b_0 hX1
 have cell_x:=x_1.cell
 have froz_x:=x_1.frozen
 have lt_x:=x_1.lt
 go_wp2_with fail
 refine calls_forget0 (W:=w1) ?_ ?_
 (focus (exact belBy))
 intro X2 hX2
 have sX2:=hX2.size
 refine (H1.out _ ((HC.out.1.below (b_1.trans (hX2.mono (by omega)))).more (by omega))).mono ?_
 rintro e w' ⟨rfl,rfl⟩
 have b_2:=b_1.trans (hX2.mono (by omega))
 have x_2:=Blk.past hX2 x_1
 clear x_1 b_1 cell_x froz_x lt_x hX2
 have cell_x:=x_2.cell
 have froz_x:=x_2.frozen
 have lt_x:=x_2.lt
 go_wp2_with fail
 refine calls_forget0 (W:=X2) ?_ ?_
 (focus (exact belBy))
 intro X3 hX3
 have sX3:=hX3.size
 refine (H2.out _ ((HC.out.2.below (b_2.trans (hX3.mono (by omega)))).more (by omega))).mono ?_
 rintro e w' ⟨rfl,rfl⟩
 have b_3:=b_2.trans (hX3.mono (by omega))
 have x_3:=Blk.past hX3 x_2
 clear x_2 b_2 cell_x froz_x lt_x hX3
 have cell_x:=x_3.cell
 have froz_x:=x_3.frozen
 have lt_x:=x_3.lt
 have HB:=hid b_3
 clear b_3
 go_wp2
 go_ret
 refine ⟨rfl,?_⟩
 have hb:=HB.out
 have hz:=hb.size
 exact belBy
open Go.RowKit
theorem run_copy2 {P:Program} {w:World} {base t ty e:Nat} {z:Value} {size bytes:Nat} (ht:P.underlying t=some (.slice e)) (hinfo:(P.info? e).map (fun i=>(i.zero,i.size,i.bytes))=some (some z,size,bytes))
  (hzs:z.cells.size=size) (hsz:0 < size) {s:Value} (hs:LitOf base e size s w) {A:Option Addr} {n c B:Nat} {xs:List Value} (hl:xs.length=n * size) (hc:Cells w B A xs) (hnil:A=none→c=0)
  (h1:∀ u∈xs,u.oneCell'=true) (hn:n≤1000000000) (hbytes:bytes≤1000) (hbase:base≤w.heap.size) :
  ∃ v w',(Builtin.append_ #[t,t] ty #[s,.slice A n c]).run P w=.ok v w'∧Grows w w'∧RowOf base e size n xs v w'∧∀ q,v.ownBlock=some q→s.ownBlock=some q∨w.heap.size≤q:=by
 obtain ⟨i,hi,hz0,hz1,hz2⟩:=info_parts hinfo
 obtain ⟨g,rfl,hown⟩:=hs
 by_cases h0:n=0
 ·subst h0
  have hxs:xs=[]:=List.length_eq_zero_iff.1 (by omega)
  subst hxs
  refine ⟨.slice (some ⟨g,0,none⟩) 0 0,w,?_,Below.refl _ _,⟨_,_,rfl,hown⟩,fun q hq=>.inl hq⟩
  cases A with
  | none =>
   have:=hnil rfl
   subst this
   simp [Builtin.append_,run_underlying ht,sizeOf,typeInfo,hi,Builtin.lenOf,Builtin.firstCells,storeCells]
  | some a =>
   have hf:=run_firstCells_some (P:=P) w i.size 0 a 0 c [] (by simp) (by simp)
   simp [Builtin.append_,run_underlying ht,sizeOf,typeInfo,hi,Builtin.lenOf,hf,storeCells]
 ·have hx0:0 < xs.length:=by rw [hl]; exact Nat.mul_pos (by omega) hsz
  obtain ⟨b,off,rfl,hb,hcl⟩:=hc hx0
  have hmul:(0 + n) * bytes≤1000000000 * 1000:=Nat.mul_le_mul (by omega) hbytes
  have hcl':∀ j u,xs[j]? = some u→w.cell? ((⟨b,off,none⟩:Addr).add j)=some u:=fun j u hu=>by
   have e:(⟨b,off,none⟩:Addr).add j=⟨b,off + j,none⟩:=by simp [Addr.add]
   rw [e]
   exact hcl j u hu
  obtain ⟨v',w',hr,ho,_,_⟩:=run_append_own (P:=P) w base t ty e i z size bytes ht hi hz0 hz1 hz2 hzs hsz _ 0 [] hown ⟨b,off,none⟩ n c xs hl hcl' h1 (by unfold maxLen; omega) (by omega) hbase
  have hg:=run_append_grow (P:=P) (w:=w) t ty e i z ht hi hz0 ⟨g,0,none⟩ 0 0 [] (by simp) (by simp) ⟨b,off,none⟩ n c xs (by rw [hz1]; exact hl) hcl' (by omega) (by omega) (growslice_fits (by omega) (by rw [hz2]; omega))
  rw [hr] at hg
  injection hg with e1 e2
  refine ⟨v',w',hr,?_,?_,?_⟩
  ·rw [e2]
   exact (Below.refl _ _).drew.alloc (Nat.le_refl _) _
  ·obtain ⟨A',c',rfl⟩:=own_shape ho
   rw [Nat.zero_add,List.nil_append] at ho
   rw [Nat.zero_add]
   exact ⟨A',c',rfl,ho⟩
  ·rw [e1]
   intro q hq
   have h:w.drew.heap.size=q:=Option.some.inj hq
   exact .inr (Nat.le_of_eq h)
theorem wpList_copy2 {P:Program} {w:World} {base t e:Nat} {z:Value} {size bytes:Nat} (ht:P.underlying t=some (.slice e)) (hinfo:(P.info? e).map (fun i=>(i.zero,i.size,i.bytes))=some (some z,size,bytes))
  (hzs:z.cells.size=size) (hsz:0 < size) {ops:Array Oper} {rest:List Oper} {Q:Exit→Act→World→Prop} {o:Oper} {a:Act} (hgd:o.guard=none) {x y:Operand} {s:Value} {A:Option Addr} {n c B:Nat} {xs:List Value}
  (ho:o.op=.call { callee:=.builtin .append,args:=#[x,y],argTypes:=#[t,t] }) (hx:a.eval x=s) (hy:a.eval y=.slice A n c)
  (hs:LitOf base e size s w) (hl:xs.length=n * size) (hc:Cells w B A xs) (hnil:A=none→c=0) (h1:∀ u∈xs,u.oneCell'=true) (hn:n≤1000000000) (hbytes:bytes≤1000) (hbase:base≤w.heap.size)
  (h:∀ A' c' w',w'.ownsRow base e size (.slice A' n c') n xs→Below w.heap.size w w'→(∀ q,(Value.slice A' n c').ownBlock=some q→s.ownBlock=some q∨w.heap.size≤q)→wpList P ops Q rest (a.put o.dst (.slice A' n c')) w'):wpList P ops Q (o :: rest) a w:=by
 refine wpList_plain hgd fun K hK=>?_
 obtain ⟨v,w',hr,hg,⟨A',c',rfl,hrow⟩,hq⟩:=run_copy2 (P:=P) (w:=w) (ty:=o.type) ht hinfo hzs hsz hs hl hc hnil h1 hn hbytes hbase
 unfold Oper.wp execOp
 simp only [ho,resolve,invoke,builtin,Sem.run_bind,Sem.run_pure,Result.andThen_ok,List.map_toArray,List.map_cons,List.map_nil,hx,hy,hr]
 exact hK _ _ (h A' c' w' hrow hg hq)
def StOf (base n:Nat) (rs os:List Int) (v:Value) (w:World):Prop:=∃ R c O c',v=.agg #[.slice R 8 c,.slice O n c']∧w.ownsRow base 3 1 (.slice R 8 c) 8 (ints rs)∧w.ownsRow base 3 1 (.slice O n c') n (ints os)∧∀ q p,(Value.slice R 8 c).ownBlock=some q→(Value.slice O n c').ownBlock=some p→q≠p
theorem StOf.stable {base n:Nat} {rs os:List Int}:∀ v w w',StOf base n rs os v w→Grows w w'→StOf base n rs os v w':=by
 rintro v w w' ⟨R,c,O,c',e,h1,h2,h3⟩ hg
 exact ⟨R,c,O,c',e,own_below h1 hg,own_below h2 hg,h3⟩
theorem litInts (w:World):(Instr.buildSlice 30 0 #[]).run Tryz.prog w=.ok (.slice (some ⟨w.heap.size,0,none⟩) 0 0) (w.alloc (.cells #[] 3)):=by kernel_rfl
set_option linter.unusedVariables false in
set_option maxRecDepth 100000 in
theorem sCopyS (R O:Option Addr) (cr co n:Nat) (rs os:List Int) (w:World) (h1:w.ownsRow 0 3 1 (.slice R 8 cr) 8 (ints rs)) (h2:w.ownsRow 0 3 1 (.slice O n co) n (ints os)) (hn:n≤1000000) :
  Calls Tryz.prog 85 #[.agg #[.slice R 8 cr,.slice O n co]] w fun e w'=>∃ v,e=.returned v∧StOf w.heap.size n rs os v w'∧Below w.heap.size w w':=by
 go_enter Tryz.func85,Tryz.ntmps85
 have b_0:=(Below.refl w.heap.size w)
 have s_0:=b_0.size
 have og_in:=own_in h1
 have og_0:=h1
 clear h1
 have oo_in:=own_in h2
 have oo_0:=h2
 clear h2
 go_upto_region 1 with fail
 refine wp_forget2 (w0:=w) (B:=w.heap.size) (b0:=w.heap.size) (t0:=69) (c0:=#[.slice R 8 cr,.slice O n co]) (b1:=w.heap.size + 1) (t1:=69) (c1:=#[.slice none 0 0,.slice none 0 0]) ?_ ?_ ?_ ?_
 (focus exact blkcBy2)
 (focus exact blkcBy2)
 (focus (exact belBy))
 intro w1 x_1 r_1 hX1
 have sX1:=hX1.size
 have x_lt:=x_1.lt
 have r_lt:=r_1.lt
 have b_1:=b_0.trans (hX1.mono (by omega))
 have og_1:=own_below og_0 hX1
 have oo_1:=own_below oo_0 hX1
 clear og_0 oo_0 b_0 hX1
 have cell_x:=x_1.cell
 have froz_x:=x_1.frozen
 have lt_x:=x_1.lt
 have cell_r:=r_1.cell
 have froz_r:=r_1.frozen
 have lt_r:=r_1.lt
 have HOG:=hid og_1
 have HOO:=hid oo_1
 have HR:=hid r_1
 have HB:=hid b_1
 clear og_1 oo_1 r_1 b_1
 refine wp_grow_tails (W:=w1) (spec:=specAt [(0,.any (LitOf w1.heap.size 3 1)),(3,.any (RowOf w1.heap.size 3 1 8 (ints rs))),(4,.any (LitOf w1.heap.size 3 1))]) 7 (by kernel_rfl) (by kernel_rfl) (Onward.mk' ((Below.refl _ _).drew)) (specAt_stab ?_) ?_
 ·intro p hp F hF
  simp only [List.mem_cons,List.not_mem_nil,or_false] at hp
  rcases hp with rfl | rfl | rfl
  all_goals injection hF with hF; subst hF
  all_goals first | exact LitOf.stable | exact RowOf.stable
 have q0:=fun (x:Later w1) (o:Nat)=>(x_1.below x.below x_1.lt).cell o
 refine gList_any (LitOf w1.heap.size 3 1) rfl rfl (fun w' hC _=>?_) (fun v0=>?_)
 ·obtain ⟨⟨w',hb⟩,rfl⟩:=hC
  exact grow_lit rfl litInts hb.size
 refine gList_quietK 2 ⟨rfl,rfl,rfl,rfl,trivial⟩ (by decide) ?_
 simp only [Act.put,List.setIfInBounds_toArray,List.set_cons_succ,List.set_cons_zero]
 delta Onward
 dsimp only [List.take,List.drop]
 repeat (go_big_quiet_step (fail))
 refine wpQuiet_nil ?_
 refine gList_any (RowOf w1.heap.size 3 1 8 (ints rs)) rfl rfl (fun w' hC hd=>?_) (fun v3=>?_)
 ·obtain ⟨⟨w',hb⟩,rfl⟩:=hC
  have hl:LitOf w1.heap.size 3 1 v0 _:=hd 0 (by kernel_rfl)
  exact grow_copy Tryz.underlying30 infoI rfl (by decide) rfl rfl rfl hl HOG.out.1 ((Cells.of_own HOG.out).below hb) (own_nil HOG.out) (ints_one _) (by omega) (by decide) hb.size
 simp only [Act.put,List.setIfInBounds_toArray,List.set_cons_succ,List.set_cons_zero]
 refine gList_any (LitOf w1.heap.size 3 1) rfl rfl (fun w' hC _=>?_) (fun v4=>?_)
 ·obtain ⟨⟨w',hb⟩,rfl⟩:=hC
  exact grow_lit rfl litInts hb.size
 refine gList_quietK 2 ⟨rfl,rfl,rfl,rfl,trivial⟩ (by decide) ?_
 simp only [Act.put,List.setIfInBounds_toArray,List.set_cons_succ,List.set_cons_zero]
 dsimp only [List.take,List.drop]
 repeat (go_big_quiet_step (fail))
 refine wpQuiet_nil ?_
 unfold gList
 intro w' hW hfs
 have g3:RowOf w1.heap.size 3 1 8 (ints rs) v3 w':=hfs 3
 have g4:LitOf w1.heap.size 3 1 v4 w':=hfs 4
 obtain ⟨⟨w',hb⟩,rfl⟩:=hW
 obtain ⟨J',cj',rfl,g1⟩:=g3
 have HL:=hid g4
 obtain ⟨gl,e4,g5⟩:=g4
 subst e4
 have hne:∀ q,(Value.slice J' 8 cj').ownBlock=some q→q≠gl∧q < w'.heap.size:=fun q hq=>by
  refine ⟨fun e=>?_,(own_in g1 q hq).2⟩
  subst e
  rcases g1.2 with ⟨hv,h0⟩ | ⟨g,cap,cur,hv,_,hh,h8,_,hs,_⟩
  ·cases h0
  ·rcases g5.2 with ⟨hv2,_⟩ | ⟨g',cap',cur',hv2,_,hh',_,_,hs',_⟩
   ·cases hv2
   ·injection hv with ev _ _
    rw [ev] at hq
    obtain rfl:g=q:=Option.some.inj hq
    injection hv2 with ev2 _ ec2
    injection ev2 with ev2
    injection ev2 with ev2 _ _
    subst ev2
    rw [hh] at hh'
    injection hh' with hh'
    injection hh' with ecc _ _
    subst ecc
    rw [hs] at hs'
    omega
 have HN:=hid hne
 have HG1:=hid g1
 have HB2:=hid (HB.out.trans (hb.mono HB.out.size))
 have HKR:=hid (HR.out.past hb)
 have HOC:=hid ((Cells.of_own HOO.out).below hb)
 have hz:=hb.size
 clear g1 g5 hfs hb q0 hne
 try dsimp only [List.drop]
 try simp only [Act.put,List.setIfInBounds_toArray,List.set_cons_succ,List.set_cons_zero]
 go_wp2_with (at_builtin; refine wpList_copy2 Tryz.underlying30 infoI rfl (by decide) rfl rfl rfl rfl HL.out HOO.out.1 HOC.out (own_nil HOO.out) (ints_one _) (by omega) (by decide) (by omega) ?_; intro A' c' w8 ho8 hb8 hq8; have kr:=HKR.out.past hb8; have cell_r2:=kr.cell; have froz_r2:=kr.frozen; have lt_r2:=kr.lt)
 have z8:=hb8.size
 have HF:=hid (And.intro (own_below HG1.out hb8) (And.intro ho8 (And.intro (HB2.out.trans (hb8.mono HB2.out.size)) (fun q p (hq:(Value.slice J' 8 cj').ownBlock=some q) (hp:(Value.slice A' n c').ownBlock=some p)=>(show q≠p from by
  obtain ⟨n1,n2⟩:=HN.out q hq
  rcases hq8 p hp with h | h
  ·have e:gl=p:=Option.some.inj h
   omega
  ·omega)))))
 clear kr ho8 hb8 hq8
 ((try simp only [Exit.inBlock,Exit.then]); apply bodyPost_ret0; focus ((try simp only [results,Tryz.results85]); (try go_simp); (try rfl)))
 have h:=HF.out
 have hz8:=h.2.2.1.size
 refine ⟨_,rfl,⟨J',cj',A',c',rfl,?_,?_,h.2.2.2⟩,?_⟩
 ·exact own_weak (own_touch' (L:=[w.heap.size + 1]) (w:=w8) (by exact tchBy) h.1 (fun q hq=>by have:=(own_in h.1 q hq).1; simp; omega)) (by omega)
 ·exact own_weak (own_touch' (L:=[w.heap.size + 1]) (w:=w8) (by exact tchBy) h.2.1 (fun q hq=>by have:=(own_in h.2.1 q hq).1; simp; omega)) (by omega)
 ·exact Touch.below' (L:=[w.heap.size + 1]) (w:=w8) (by exact tchBy) h.2.2.1 (fun i hi=>by simp at hi; omega) h.2.2.1.size
open Go.RowKit
def InsR (w:World) (base:Nat) (ls:List In1):Prop:=∀ (i:Nat) (q:In1),ls[i]? = some q→w.ownsRow base 3 1 (.slice q.1 q.2.2.length q.2.1) q.2.2.length (ints q.2.2)
theorem InsR.cells {w:World} {base:Nat} {ls:List In1} (h:InsR w base ls):InsW w w.heap.size ls:=fun i q hq=>Cells.of_own (h i q hq)
theorem InsR.below {w w':World} {base:Nat} {ls:List In1} (h:InsR w base ls) (hb:Below w.heap.size w w'):InsR w' base ls:=fun i q hq=>own_below (h i q hq) hb
def totL (ls:List In1):Nat:=(ls.map fun q=>q.2.2.length).sum
theorem totL_mem {ls:List In1} {q:In1} (h:q∈ls):q.2.2.length≤totL ls:=by
 unfold totL
 induction ls with
 | nil=>cases h
 | cons a l ih =>
  rw [List.map_cons,List.sum_cons]
  rcases List.mem_cons.1 h with rfl | h
  ·omega
  ·have:=ih h
   omega
theorem InsR.grown {w w':World} {base b e sz n:Nat} {ls:List In1} {v:Value} {xs:List Value} (h:InsR w base ls) (ho:w.ownsRow b e sz v n xs) (he:e≠3) (hg:w.grownBy w' v.ownBlock):InsR w' base ls:=fun i q hq=>gr_own hg (h i q hq) fun a p ha hp=>own_ne ho (h i q hq) he a p ha hp
open Go.RowKit
def conOne (g:Gt):Nat:=if (g.k == 2)=true then 1 else 0
def conG (gs:List Gt):Nat:=(gs.filter (fun g=>g.k == 2)).length
theorem conG_snoc (gs:List Gt) (g:Gt):conG (gs ++ [g])=conG gs + conOne g:=by
 unfold conG conOne
 rw [List.filter_append,List.length_append]
 cases h:(g.k == 2) <;> simp [h]
def evA (a b g e n:Int):Int:=xorI (xorI (xorI (hashI a (2 * n)) (hashI b (2 * n + 1))) (ifI (oneI a) g)) (ifI (oneI b) (xorI e a))
def evW (T C ls out:List Int) (ka kc n:Nat) (g:Gt):Int :=
 if g.k=1 then ls.getD g.a.toNat 0
 else if g.k=2 then C.getD kc 0
 else if g.k=3 then xorI (out.getD g.a.toNat 0) (out.getD g.b.toNat 0)
 else if g.k=5 then out.getD g.a.toNat 0
 else evA (out.getD g.a.toNat 0) (out.getD g.b.toNat 0) (T.getD (2 * ka) 0) (T.getD (2 * ka + 1) 0) n
def evTo (T C ls:List Int) (gs:List Gt):Nat→List Int
 | 0=>[]
 | j + 1=>evTo T C ls gs j ++ [evW T C ls (evTo T C ls gs j) (andG (gs.take j)) (conG (gs.take j)) j (gs.getD j ⟨0,0,0⟩)]
theorem evTo_length (T C ls:List Int) (gs:List Gt):∀ j,(evTo T C ls gs j).length=j
 | 0=>rfl
 | j + 1=>by rw [evTo,List.length_append,evTo_length T C ls gs j]; rfl
def conP (d:Int) (zs:List Int) (n:Nat) (g:Gt):List Int:=if (g.k == 2)=true then [lblI (zs.getD n 0) d g.a] else []
def conTo (d:Int) (zs:List Int) (gs:List Gt):Nat→List Int
 | 0=>[]
 | j + 1=>conTo d zs gs j ++ conP d zs j (gs.getD j ⟨0,0,0⟩)
def decL (zs os:List Int):List Int:=os.map fun w=>oneI (zs.getD w.toNat 0)
theorem take_step {gs:List Gt} {j:Nat} (h:j < gs.length):gs.take (j + 1)=gs.take j ++ [gs.getD j ⟨0,0,0⟩]∧gs[j]? = some (gs.getD j ⟨0,0,0⟩):=by
 have e:gs.getD j ⟨0,0,0⟩=gs[j]:=by rw [List.getD_eq_getElem?_getD,List.getElem?_eq_getElem h]; rfl
 rw [e]
 exact ⟨List.take_succ_eq_append_getElem h,List.getElem?_eq_getElem h⟩
theorem conTo_length (d:Int) (zs:List Int) (gs:List Gt):∀ j,j≤gs.length→(conTo d zs gs j).length=conG (gs.take j)
 | 0,_=>rfl
 | j + 1,hj=>by
  rw [conTo,List.length_append,conTo_length d zs gs j (by omega),(take_step (by omega:j < gs.length)).1,conG_snoc]
  unfold conP conOne
  split <;> rfl
theorem gar_pre (s d:Int) (gs:List Gt) (j:Nat):∀ k,∃ l,(garTo s d gs (j + k)).1=(garTo s d gs j).1 ++ l
 | 0=>⟨[],by simp⟩
 | k + 1=>by
  obtain ⟨l,h⟩:=gar_pre s d gs j k
  exact ⟨_,by rw [←Nat.add_assoc,garTo,h,List.append_assoc]⟩
theorem gar_tpre (s d:Int) (gs:List Gt) (j:Nat):∀ k,∃ l,(garTo s d gs (j + k)).2=(garTo s d gs j).2 ++ l
 | 0=>⟨[],by simp⟩
 | k + 1=>by
  obtain ⟨l,h⟩:=gar_tpre s d gs j k
  exact ⟨_,by rw [←Nat.add_assoc,garTo,h,List.append_assoc]⟩
theorem getD_pre {l r:List Int} {i:Nat} (h:i < l.length):(l ++ r).getD i 0=l.getD i 0:=by
 rw [List.getD_eq_getElem?_getD,List.getElem?_append_left h,←List.getD_eq_getElem?_getD]
theorem getD_mid (l r:List Int) (x:Int):(l ++ x :: r).getD l.length 0=x:=by
 rw [List.getD_eq_getElem?_getD,List.getElem?_append_right (Nat.le_refl _)]
 simp
theorem getD_mid1 (l r:List Int) (x y:Int):(l ++ x :: y :: r).getD (l.length + 1) 0=y:=by
 rw [List.getD_eq_getElem?_getD,List.getElem?_append_right (by omega)]
 simp
theorem gar_same {s d:Int} {gs:List Gt} {i j n:Nat} (hi:i < j) (hj:j≤n):(garTo s d gs n).1.getD i 0=(garTo s d gs j).1.getD i 0:=by
 obtain ⟨l,h⟩:=gar_pre s d gs j (n - j)
 rw [show j + (n - j)=n by omega] at h
 rw [h,getD_pre (by rw [gar_zeros]; omega)]
theorem gar_tab {s d:Int} {gs:List Gt} {j n:Nat} (hj:j < n) (hn:n≤gs.length) (hk:(gs.getD j ⟨0,0,0⟩).k=4) :
  (garTo s d gs n).2.getD (2 * andG (gs.take j)) 0=tgI d ((garTo s d gs j).1.getD (gs.getD j ⟨0,0,0⟩).a.toNat 0) ((garTo s d gs j).1.getD (gs.getD j ⟨0,0,0⟩).b.toNat 0) j ∧
  (garTo s d gs n).2.getD (2 * andG (gs.take j) + 1) 0=teI d ((garTo s d gs j).1.getD (gs.getD j ⟨0,0,0⟩).a.toNat 0) ((garTo s d gs j).1.getD (gs.getD j ⟨0,0,0⟩).b.toNat 0) j:=by
 obtain ⟨l,h⟩:=gar_tpre s d gs (j + 1) (n - (j + 1))
 rw [show j + 1 + (n - (j + 1))=n by omega,garTo] at h
 dsimp only at h
 rw [garT,if_pos (by rw [hk]; rfl),List.append_assoc] at h
 rw [h,←gar_tables s d gs j (by omega)]
 exact ⟨getD_mid _ _ _,getD_mid1 _ _ _ _⟩
theorem con_pre (d:Int) (zs:List Int) (gs:List Gt) (j:Nat):∀ k,∃ l,conTo d zs gs (j + k)=conTo d zs gs j ++ l
 | 0=>⟨[],by simp⟩
 | k + 1=>by
  obtain ⟨l,h⟩:=con_pre d zs gs j k
  exact ⟨_,by rw [←Nat.add_assoc,conTo,h,List.append_assoc]⟩
theorem con_at {d:Int} {zs:List Int} {gs:List Gt} {j n:Nat} (hj:j < n) (hn:n≤gs.length) (hk:(gs.getD j ⟨0,0,0⟩).k=2) :
  (conTo d zs gs n).getD (conG (gs.take j)) 0=lblI (zs.getD j 0) d (gs.getD j ⟨0,0,0⟩).a:=by
 obtain ⟨l,h⟩:=con_pre d zs gs (j + 1) (n - (j + 1))
 rw [show j + 1 + (n - (j + 1))=n by omega,conTo,conP,if_pos (by rw [hk]; rfl),List.append_assoc] at h
 rw [h,←conTo_length d zs gs j (by omega)]
 exact getD_mid _ _ _
def lab (x:BitVec 16):Int:=((x.toNat:Nat):Int)
theorem lab_of {z:Int} (h:labelB z=true):∃ x,z=lab x:=by
 obtain ⟨h0,h1⟩:=labelB_iff.1 h
 obtain ⟨n,rfl⟩:=Int.eq_ofNat_of_zero_le h0
 refine ⟨BitVec.ofNat 16 n,?_⟩
 unfold lab
 rw [BitVec.toNat_ofNat,Nat.mod_eq_of_lt (by omega)]
theorem lab_xor (x y:BitVec 16):xorI (lab x) (lab y)=lab (x ^^^ y):=by
 have hx:=x.isLt
 have hy:=y.isLt
 unfold xorI lab
 rw [xor_nat _ _ (by omega) (by omega),BitVec.toNat_xor]
theorem lab_zero:(0:Int)=lab 0#16:=rfl
theorem lab_one (x:BitVec 16):oneI (lab x)=((x.toNat % 2:Nat):Int):=by
 have hx:=x.isLt
 unfold oneI lab
 rw [show (1:Int)=((1:Nat):Int) from rfl,and_nat _ _ (by omega) (by omega),Nat.and_one_is_mod]
theorem lab_odd (x y:BitVec 16):(x ^^^ y).toNat % 2=(x.toNat + y.toNat) % 2:=by
 have h:=@Nat.xor_mod_two_eq_one x.toNat y.toNat
 rw [BitVec.toNat_xor]
 omega
theorem xlc (a b c:BitVec 16):a ^^^ (b ^^^ c)=b ^^^ (a ^^^ c):=by rw [←BitVec.xor_assoc,BitVec.xor_comm a b,BitVec.xor_assoc]
theorem xcc (a b:BitVec 16):a ^^^ (a ^^^ b)=b:=by rw [←BitVec.xor_assoc,BitVec.xor_self,BitVec.zero_xor]
theorem lbl0 (z d:Int):lblI z d 0=z:=rfl
theorem lbl1 (z d:Int):lblI z d 1=xorI z d:=rfl
theorem if0 (x:Int):ifI 0 x=0:=rfl
theorem if1 (x:Int):ifI 1 x=x:=rfl
theorem delta_odd (s a:Int):oneI (deltaI s a)=1:=by
 unfold deltaI
 obtain ⟨a0,a1⟩:=labelB_iff.1 (below_label s a 65536)
 obtain ⟨x,hx⟩:=Int.eq_ofNat_of_zero_le a0
 rw [hx] at a1 ⊢
 have e:=or_nat x 1 (by omega) (by omega)
 have h:x ||| 1 < 2 ^ 16:=Nat.or_lt_two_pow (by omega) (by omega)
 rw [show (1:Int)=((1:Nat):Int) from rfl,e]
 unfold oneI
 rw [show (1:Int)=((1:Nat):Int) from rfl,and_nat _ _ (by omega) (by omega),Nat.and_one_is_mod]
 have:(x ||| 1) % 2=1:=by rw [Nat.or_mod_two_eq_one]; exact .inr rfl
 rw [this]
theorem and_lab {d za zb va vb:Int} (n:Int) (hd:labelB d=true) (ho:oneI d=1) (ha:labelB za=true) (hb:labelB zb=true) (h1:Bit va) (h2:Bit vb) :
  evA (lblI za d va) (lblI zb d vb) (tgI d za zb n) (teI d za zb n) n=lblI (gaI d za zb n) d (va * vb):=by
 obtain ⟨a,rfl⟩:=lab_of ha
 obtain ⟨b,rfl⟩:=lab_of hb
 obtain ⟨e,rfl⟩:=lab_of hd
 rw [lab_one] at ho
 have he:e.toNat % 2=1:=by omega
 obtain ⟨p,hp⟩:=lab_of (hash_label (lab a) (2 * n))
 obtain ⟨q,hq⟩:=lab_of (hash_label (lab (a ^^^ e)) (2 * n))
 obtain ⟨r,hr⟩:=lab_of (hash_label (lab b) (2 * n + 1))
 obtain ⟨t,ht⟩:=lab_of (hash_label (lab (b ^^^ e)) (2 * n + 1))
 have ca:a.toNat % 2=0∨a.toNat % 2=1:=by omega
 have cb:b.toNat % 2=0∨b.toNat % 2=1:=by omega
 have xa:=lab_odd a e
 have xb:=lab_odd b e
 unfold evA gaI tgI teI
 rcases h1 with rfl | rfl <;> rcases h2 with rfl | rfl <;> simp only [Int.mul_zero,Int.mul_one,lbl0,lbl1,lab_xor,hp,hq,hr,ht,lab_one] <;>
  rcases ca with ca | ca <;> rcases cb with cb | cb <;> (have ya:(a ^^^ e).toNat % 2=1 - a.toNat % 2:=by omega) <;> (have yb:(b ^^^ e).toNat % 2=1 - b.toNat % 2:=by omega) <;>
  rw [ca] at ya <;> rw [cb] at yb <;> simp only [ca,cb,ya,yb,Nat.sub_zero,Nat.sub_self,Int.natCast_zero,Int.natCast_one,if0,if1] <;> simp only [lab_zero,lab_xor] <;> (try simp only [BitVec.xor_assoc,BitVec.xor_comm,xlc,xcc,BitVec.xor_self,BitVec.xor_zero,BitVec.zero_xor])
theorem sum_lab {d za zb va vb:Int} (hd:labelB d=true) (ha:labelB za=true) (hb:labelB zb=true) (h1:Bit va) (h2:Bit vb):xorI (lblI za d va) (lblI zb d vb)=lblI (xorI za zb) d ((va + vb) % 2):=by
 obtain ⟨a,rfl⟩:=lab_of ha
 obtain ⟨b,rfl⟩:=lab_of hb
 obtain ⟨e,rfl⟩:=lab_of hd
 rcases h1 with rfl | rfl <;> rcases h2 with rfl | rfl
 ·show xorI (lab a) (lab b)=lblI _ _ 0
  rw [lbl0]
 ·show xorI (lab a) (xorI (lab b) (lab e))=lblI _ _ 1
  rw [lbl1,lab_xor,lab_xor,lab_xor,lab_xor,BitVec.xor_assoc]
 ·show xorI (xorI (lab a) (lab e)) (lab b)=lblI _ _ 1
  rw [lbl1,lab_xor,lab_xor,lab_xor,lab_xor,BitVec.xor_assoc,BitVec.xor_comm e b,BitVec.xor_assoc]
 ·show xorI (xorI (lab a) (lab e)) (xorI (lab b) (lab e))=lblI _ _ 0
  rw [lbl0,lab_xor,lab_xor,lab_xor,lab_xor,BitVec.xor_assoc,xlc e b e,BitVec.xor_self,BitVec.xor_zero]
theorem not_lab {d z v:Int} (hd:labelB d=true) (hz:labelB z=true) (hv:Bit v):lblI z d v=lblI (xorI z d) d (1 - v):=by
 obtain ⟨a,rfl⟩:=lab_of hz
 obtain ⟨e,rfl⟩:=lab_of hd
 rcases hv with rfl | rfl
 ·show lblI _ _ 0=lblI _ _ 1
  rw [lbl0,lbl1,lab_xor,lab_xor,BitVec.xor_assoc,BitVec.xor_self,BitVec.xor_zero]
 ·show lblI _ _ 1=lblI _ _ 0
  rw [lbl0,lbl1]
theorem dec_lab {d z v:Int} (hd:labelB d=true) (ho:oneI d=1) (hz:labelB z=true) (hv:Bit v):xorI (oneI (lblI z d v)) (oneI z)=v:=by
 obtain ⟨a,rfl⟩:=lab_of hz
 obtain ⟨e,rfl⟩:=lab_of hd
 rw [lab_one] at ho
 have he:e.toNat % 2=1:=by omega
 have ca:a.toNat % 2=0∨a.toNat % 2=1:=by omega
 have xa:=lab_odd a e
 obtain ⟨x00,x01,x10,x11⟩:=xor_bits
 rcases hv with rfl | rfl
 ·rw [lbl0,lab_one]
  rcases ca with ca | ca <;> rw [ca]
  ·exact x00
  ·exact x11
 ·rw [lbl1,lab_xor,lab_one,lab_one]
  rcases ca with ca | ca
  ·rw [show (a ^^^ e).toNat % 2=1 by omega,ca]; exact x10
  ·rw [show (a ^^^ e).toNat % 2=0 by omega,ca]; exact x01
theorem ev_labels {s d:Int} {B ls:List Int} {gs:List Gt} (hd:labelB d=true) (ho:oneI d=1) (hB:∀ x∈B,Bit x) (hg:gatesB 0 gs=true)
  (hls:∀ k:Nat,k < 80→ls.getD k 0=lblI (zeroI s k) d (B.getD k 0)) :
  ∀ j,j≤gs.length→∀ i,i < j→(evTo (garTo s d gs gs.length).2 (conTo d (garTo s d gs gs.length).1 gs gs.length) ls gs j).getD i 0=lblI ((garTo s d gs gs.length).1.getD i 0) d ((ev B (gs.take j)).getD i 0)
 | 0,_,i,hi=>absurd hi (by omega)
 | j + 1,hj,i,hi=>by
  obtain ⟨et,eg⟩:=take_step (by omega:j < gs.length)
  have ih:=ev_labels hd ho hB hg hls j (by omega)
  have hv:gateB (gs.getD j ⟨0,0,0⟩) j=true:=by
   have:=gatesB_at hg eg
   rwa [Nat.zero_add] at this
  have hgt:gatesB 0 (gs.take j)=true:=by
   have h:=hg
   rw [←List.take_append_drop j gs,gatesB_append,Bool.and_eq_true] at h
   exact h.1
  have hbit:=ev_bit hB hgt
  have hvl:(ev B (gs.take j)).length=j:=by rw [ev_length,List.length_take]; omega
  have hel:=evTo_length (garTo s d gs gs.length).2 (conTo d (garTo s d gs gs.length).1 gs gs.length) ls gs j
  have hzl:=gar_labels (s:=s) gs hd j
  have hz0:∀ x:Int,0≤x∧x < j→(garTo s d gs gs.length).1.getD x.toNat 0=(garTo s d gs j).1.getD x.toNat 0:=fun x hx=>gar_same (by omega) (by omega)
  have hlb:∀ x:Int,labelB ((garTo s d gs j).1.getD x.toNat 0)=true:=fun x=>getD_label hzl _
  have hwire:∀ x:Int,0≤x∧x < j→(evTo (garTo s d gs gs.length).2 (conTo d (garTo s d gs gs.length).1 gs gs.length) ls gs j).getD x.toNat 0=lblI ((garTo s d gs j).1.getD x.toNat 0) d (V B (gs.take j) x):=fun x hx=>by
   rw [ih x.toNat (by omega),hz0 x hx]
   rfl
  rw [evTo,et,ev_snoc]
  by_cases hij:i < j
  ·rw [getD_pre (by rw [hel]; exact hij),getD_pre (by rw [hvl]; exact hij)]
   exact ih i hij
  ·have e:i=j:=by omega
   subst e
   have e1:∀ x:Int,(evTo (garTo s d gs gs.length).2 (conTo d (garTo s d gs gs.length).1 gs gs.length) ls gs i ++ [x]).getD i 0=x:=fun x=>by
    have:=getD_mid (evTo (garTo s d gs gs.length).2 (conTo d (garTo s d gs gs.length).1 gs gs.length) ls gs i) [] x
    rwa [hel] at this
   have e2:∀ x:Int,(ev B (gs.take i) ++ [x]).getD i 0=x:=fun x=>by
    have:=getD_mid (ev B (gs.take i)) [] x
    rwa [hvl] at this
   have e3:(garTo s d gs gs.length).1.getD i 0=garZ s d (garTo s d gs i).1 i (gs.getD i ⟨0,0,0⟩):=by
    rw [gar_same (Nat.lt_succ_self i) (by omega),garTo]
    dsimp only
    have:=getD_mid (garTo s d gs i).1 [] (garZ s d (garTo s d gs i).1 i (gs.getD i ⟨0,0,0⟩))
    rwa [gar_zeros] at this
   rw [e1,e2]
   have eC:(gs.getD i ⟨0,0,0⟩).k=2→(conTo d (garTo s d gs gs.length).1 gs gs.length).getD (conG (gs.take i)) 0=lblI ((garTo s d gs gs.length).1.getD i 0) d (gs.getD i ⟨0,0,0⟩).a:=fun hk=>con_at (by omega) (Nat.le_refl _) hk
   have eT:=fun hk=>gar_tab (s:=s) (d:=d) (gs:=gs) (j:=i) (n:=gs.length) (by omega) (Nat.le_refl _) hk
   generalize (gs.getD i ⟨0,0,0⟩)=g at *
   rw [e3] at eC ⊢
   unfold evW garZ gval
   unfold garZ at eC
   rcases gate_kind hv with hk | hk | hk | hk | hk
   ·obtain ⟨hr,_⟩:=gate_is1 hv hk
    rw [if_pos hk,if_pos hk,if_pos hk,hls _ (by omega),show ((g.a.toNat:Nat):Int)=g.a by omega]
   ·rw [if_neg (by omega),if_pos hk,if_neg (by omega),if_pos hk,if_neg (by omega),if_pos hk]
    rw [if_neg (by omega),if_pos hk] at eC
    exact eC hk
   ·obtain ⟨ha,hb⟩:=gate_is34 hv (.inl hk)
    rw [if_neg (by omega),if_neg (by omega),if_pos hk,if_neg (by omega),if_neg (by omega),if_pos hk,if_neg (by omega),if_neg (by omega),if_pos hk,hwire _ ha,hwire _ hb]
    exact sum_lab hd (hlb _) (hlb _) (hbit _) (hbit _)
   ·obtain ⟨ha,hb⟩:=gate_is34 hv (.inr hk)
    obtain ⟨t1,t2⟩:=eT hk
    rw [if_neg (by omega),if_neg (by omega),if_neg (by omega),if_neg (by omega),if_neg (by omega),if_neg (by omega),if_neg (by omega),if_neg (by omega),if_neg (by omega),if_neg (by omega),if_neg (by omega),if_pos hk,hwire _ ha,hwire _ hb,t1,t2]
    exact and_lab _ hd ho (hlb _) (hlb _) (hbit _) (hbit _)
   ·obtain ⟨ha,_⟩:=gate_is5 hv hk
    rw [if_neg (by omega),if_neg (by omega),if_neg (by omega),if_pos hk,if_neg (by omega),if_neg (by omega),if_neg (by omega),if_pos hk,if_neg (by omega),if_neg (by omega),if_neg (by omega),if_neg (by omega),hwire _ ha]
    exact not_lab hd (hlb _) (hbit _)
open Go.RowKit
section
variable {B:List Int}
theorem gval_app {A:List Gt} {g:Gt} (hg:gateB g A.length=true) (l:List Gt):gval B (ev B (A ++ l)) g=gval B (ev B A) g:=by
 have hV:∀ x:Int,0≤x∧x < A.length→(ev B (A ++ l)).getD x.toNat 0=(ev B A).getD x.toNat 0:=fun x hx=>V_app (wireB_iff.2 hx) l
 unfold gval
 rcases gate_kind hg with hk | hk | hk | hk | hk
 ·rw [if_pos hk,if_pos hk]
 ·rw [if_neg (by omega),if_pos hk,if_neg (by omega),if_pos hk]
 ·obtain ⟨h1,h2⟩:=gate_is34 hg (.inl hk)
  rw [if_neg (by omega),if_neg (by omega),if_pos hk,if_neg (by omega),if_neg (by omega),if_pos hk,hV _ h1,hV _ h2]
 ·obtain ⟨h1,h2⟩:=gate_is34 hg (.inr hk)
  rw [if_neg (by omega),if_neg (by omega),if_neg (by omega),if_pos hk,if_neg (by omega),if_neg (by omega),if_neg (by omega),if_pos hk,hV _ h1,hV _ h2]
 ·obtain ⟨h1,_⟩:=gate_is5 hg hk
  rw [if_neg (by omega),if_neg (by omega),if_neg (by omega),if_neg (by omega),if_neg (by omega),if_neg (by omega),if_neg (by omega),if_neg (by omega),hV _ h1]
theorem V_gate {gs:List Gt} {i:Nat} {g:Gt} (h:gatesB 0 gs=true) (hi:gs[i]? = some g):V B gs (i:Int)=gval B (ev B gs) g:=by
 obtain ⟨hl,e⟩:=List.getElem?_eq_some_iff.1 hi
 have hv:=gatesB_at h hi
 rw [Nat.zero_add] at hv
 have es:gs=gs.take i ++ (g :: gs.drop (i + 1)):=by rw [←e,List.getElem_cons_drop,List.take_append_drop]
 have hti:(gs.take i).length=i:=by rw [List.length_take]; omega
 have h1:V B gs (i:Int)=V B (gs.take i ++ [g]) (i:Int):=by
  have:=V_app (B:=B) (gs:=gs.take i ++ [g]) (w:=(i:Int)) (wire_at (by simp [hti])) (gs.drop (i + 1))
  rw [List.append_assoc,List.singleton_append,←es] at this
  exact this
 have h2:gval B (ev B gs) g=gval B (ev B (gs.take i)) g:=by
  have:=gval_app (B:=B) (A:=gs.take i) (g:=g) (by rw [hti]; exact hv) (g :: gs.drop (i + 1))
  rwa [←es] at this
 rw [h1,h2,V_new g hti]
theorem V_gt {gs:List Gt} {w:Int} (h:gatesB 0 gs=true) (hw:wireB gs.length w=true):V B gs w=gval B (ev B gs) (gtAt gs w):=by
 have:=V_gate (B:=B) h (gt_at hw)
 have h2:=wireB_iff.1 hw
 rwa [show ((w.toNat:Nat):Int)=w by omega] at this
structure SemP (B:List Int) (gs:List Gt) (p:List Gt × Int) (v:Int):Prop where
 up:∃ l,p.1=gs ++ l
 v:V B p.1 p.2=v
theorem put_sem {gs:List Gt} {g:Gt} (h:gatesB 0 gs=true):SemP B gs (put2 gs g) (gval B (ev B gs) g):=by
 unfold put2 putG
 by_cases hf:findG gs g < gs.length
 ·rw [if_pos hf]
  exact ⟨⟨[],by simp⟩,V_gate h (findG_lt hf)⟩
 ·rw [if_neg hf]
  refine ⟨⟨[g],rfl⟩,?_⟩
  dsimp only
  rw [findG_len hf,V_new g rfl]
theorem same_sem {gs:List Gt} {w:Int}:SemP B gs (gs,w) (V B gs w):=⟨⟨[],by simp⟩,rfl⟩
theorem neg_sem {gs:List Gt} {w:Int} (h:gatesB 0 gs=true) (hw:wireB gs.length w=true):SemP B gs (negG gs w) (1 - V B gs w):=by
 have hg:=gt_ok h hw
 have hv:=V_gt (B:=B) h hw
 unfold negG
 by_cases h2:(gtAt gs w).k=2
 ·rw [if_pos h2]
  have:=put_sem (B:=B) (g:=⟨2,1 - (gtAt gs w).a,0⟩) h
  rw [gval2] at this
  have e:V B gs w=(gtAt gs w).a:=by rw [hv]; unfold gval; rw [if_neg (by omega),if_pos h2]
  rw [e]
  exact this
 rw [if_neg h2]
 by_cases h5:(gtAt gs w).k=5
 ·rw [if_pos h5]
  have e:V B gs w=1 - V B gs (gtAt gs w).a:=by rw [hv]; unfold gval; rw [if_neg (by omega),if_neg (by omega),if_neg (by omega),if_neg (by omega)]; rfl
  rw [show 1 - V B gs w=V B gs (gtAt gs w).a by omega]
  exact same_sem
 rw [if_neg h5]
 exact put_sem (B:=B) (g:=⟨5,w,0⟩) h
def op2 (k x y:Int):Int:=if k=3 then (x + y) % 2 else x * y
theorem op2_swap (k x y:Int):op2 k x y=op2 k y x:=by
 unfold op2
 split
 ·rw [Int.add_comm]
 ·exact Int.mul_comm _ _
theorem val_is {gs:List Gt} {w:Int} (h:gatesB 0 gs=true) (hw:wireB gs.length w=true) {x:Int} (hx:valG gs w=x) (h0:0≤x):V B gs w=x:=by
 unfold valG at hx
 split at hx
 ·next h2 =>
  rw [V_gt h hw,←hx]
  unfold gval
  rw [if_neg (by omega),if_pos h2]
 ·omega
theorem half_sem {gs:List Gt} {k a b:Int} {o:List Gt × Int} (hk:k=3∨k=4) (h:gatesB 0 gs=true) (hb:∀ w,Bit (V B gs w)) (wa:wireB gs.length a=true) (wb:wireB gs.length b=true) (ho:SemP B gs o (op2 k (V B gs a) (V B gs b))) :
  SemP B gs (halfG gs k a b o) (op2 k (V B gs a) (V B gs b)):=by
 have hbb:=hb b
 unfold halfG
 by_cases h1:valG gs a=0∧k=3∨valG gs a=1∧k=4
 ·rw [if_pos h1]
  have e:op2 k (V B gs a) (V B gs b)=V B gs b:=by
   unfold op2
   rcases h1 with ⟨h1,h2⟩ | ⟨h1,h2⟩
   ·rw [if_pos h2,val_is h wa h1 (by omega)]
    unfold Bit at hbb
    omega
   ·rw [if_neg (by omega),val_is h wa h1 (by omega),Int.one_mul]
  rw [e]
  exact same_sem
 rw [if_neg h1]
 by_cases h2:valG gs a=1
 ·rw [if_pos h2]
  have hk3:k=3:=by omega
  have e:op2 k (V B gs a) (V B gs b)=1 - V B gs b:=by
   unfold op2
   rw [if_pos hk3,val_is h wa h2 (by omega)]
   unfold Bit at hbb
   omega
  rw [e]
  exact neg_sem h wb
 rw [if_neg h2]
 by_cases h3:valG gs a=0
 ·rw [if_pos h3]
  have hk4:k≠3:=by omega
  have e:op2 k (V B gs a) (V B gs b)=0:=by
   unfold op2
   rw [if_neg hk4,val_is h wa h3 (by omega),Int.zero_mul]
  rw [e]
  exact put_sem (B:=B) (g:=⟨2,0,0⟩) h
 ·rw [if_neg h3]
  exact ho
theorem gval_op2 {gs:List Gt} {k a b:Int} (hk:k=3∨k=4):gval B (ev B gs) ⟨k,a,b⟩=op2 k (V B gs a) (V B gs b):=by
 rcases hk with rfl | rfl <;> rfl
theorem bin_sem {gs:List Gt} {k a b:Int} (hk:k=3∨k=4) (h:gatesB 0 gs=true) (hb:∀ w,Bit (V B gs w)) (wa:wireB gs.length a=true) (wb:wireB gs.length b=true):SemP B gs (binG gs k a b) (op2 k (V B gs a) (V B gs b)):=by
 have hba:=hb a
 unfold binG
 by_cases e:a=b
 ·subst e
  rw [if_pos rfl]
  by_cases h4:k=4
  ·rw [if_pos h4]
   have e2:op2 k (V B gs a) (V B gs a)=V B gs a:=by
    unfold op2
    rw [if_neg (by omega)]
    rcases hba with q | q <;> rw [q] <;> rfl
   rw [e2]
   exact same_sem
  ·rw [if_neg h4]
   have e2:op2 k (V B gs a) (V B gs a)=0:=by
    unfold op2
    rw [if_pos (by omega)]
    omega
   rw [e2]
   exact put_sem (B:=B) (g:=⟨2,0,0⟩) h
 ·rw [if_neg e]
  refine half_sem hk h hb wa wb ?_
  rw [op2_swap]
  refine half_sem hk h hb wb wa ?_
  have hp:=put_sem (B:=B) (g:=⟨k,min a b,max a b⟩) h
  rw [gval_op2 hk] at hp
  rcases Int.le_total a b with q | q
  ·rw [Int.min_eq_left q,Int.max_eq_right q] at hp ⊢
   rw [op2_swap]
   exact hp
  ·rw [Int.min_eq_right q,Int.max_eq_left q] at hp ⊢
   exact hp
theorem simpP_sem {st:List Gt × List Int} {k:Nat} {A:List Gt} (h:OkS st k) (hB:∀ x∈B,Bit x) (hs:∀ i:Nat,i < k→V B st.1 (st.2.getD i 0)=V B A (i:Int)) {g:Gt} (hg:gateB g k=true):SemP B st.1 (simpP st.1 st.2 g) (gval B (ev B A) g):=by
 have hb:=ev_bit hB h.g
 have hsx:∀ x:Int,0≤x∧x < k→V B st.1 (st.2.getD x.toNat 0)=V B A x:=fun x hx=>by
  rw [hs x.toNat (by omega),show ((x.toNat:Nat):Int)=x by omega]
 unfold simpP
 by_cases h34:g.k=3∨g.k=4
 ·rw [if_pos h34]
  have hw:=gate_is34 hg h34
  have:=bin_sem (B:=B) h34 h.g hb (h.at_ hw.1).2 (h.at_ hw.2).2
  rw [hsx _ hw.1,hsx _ hw.2] at this
  have e:gval B (ev B A) g=op2 g.k (V B A g.a) (V B A g.b):=gval_op2 (a:=g.a) (b:=g.b) h34
  rw [e]
  exact this
 rw [if_neg h34]
 by_cases h5:g.k=5
 ·rw [if_pos h5]
  have hw:=gate_is5 hg h5
  have:=neg_sem (B:=B) h.g (h.at_ hw.1).2
  rw [hsx _ hw.1] at this
  have e:gval B (ev B A) g=1 - V B A g.a:=by unfold gval; rw [if_neg (by omega),if_neg (by omega),if_neg (by omega),if_neg (by omega)]; rfl
  rw [e]
  exact this
 rw [if_neg h5]
 have hp:=put_sem (B:=B) (g:=⟨g.k,g.a,0⟩) h.g
 have e:gval B (ev B st.1) ⟨g.k,g.a,0⟩=gval B (ev B A) g:=by
  unfold gval
  dsimp only
  rcases gate_kind hg with h1 | h1 | h1 | h1 | h1
  ·rw [if_pos h1,if_pos h1]
  ·rw [if_neg (by omega),if_pos h1,if_neg (by omega),if_pos h1]
  ·exact absurd (.inl h1) h34
  ·exact absurd (.inr h1) h34
  ·exact absurd h1 h5
 rw [e] at hp
 exact hp
theorem simp_sem {gs:List Gt} (hB:∀ x∈B,Bit x) (h:gatesB 0 gs=true):∀ k,k≤gs.length→∀ i:Nat,i < k→V B (simpTo (gs.take k)).1 ((simpTo (gs.take k)).2.getD i 0)=V B (gs.take k) (i:Int)
 | 0,_,i,hi=>absurd hi (by omega)
 | k + 1,hk,i,hi=>by
  have hk':k < gs.length:=by omega
  have ih:=simp_sem hB h k (by omega)
  have hok:=simp_take h k (by omega)
  have hg:=gatesB_at h (List.getElem?_eq_getElem hk')
  rw [Nat.zero_add] at hg
  have hA:(gs.take k).length=k:=by rw [List.length_take]; omega
  obtain ⟨⟨l,hl⟩,hv⟩:=simpP_sem hok hB ih hg
  rw [List.take_succ_eq_append_getElem hk',simpTo_snoc]
  have htl:=hok.tl
  by_cases e:i < k
  ·have h1:(simpS (simpTo (gs.take k)) gs[k]).2.getD i 0=(simpTo (gs.take k)).2.getD i 0:=by
    show ((simpTo (gs.take k)).2 ++ _).getD i 0=_
    rw [List.getD_eq_getElem?_getD,List.getElem?_append_left (by omega),←List.getD_eq_getElem?_getD]
   have hw:=(hok.at_ (x:=(i:Int)) (by omega)).2
   rw [Int.toNat_natCast] at hw
   rw [h1,V_snoc _ (wire_at (by omega)),←ih i e]
   show V B (simpP _ _ _).1 _=_
   rw [hl]
   exact V_app hw l
  ·have e2:i=k:=by omega
   subst e2
   have h1:(simpS (simpTo (gs.take i)) gs[i]).2.getD i 0=(simpP (simpTo (gs.take i)).1 (simpTo (gs.take i)).2 gs[i]).2:=by
    show ((simpTo (gs.take i)).2 ++ _).getD i 0=_
    rw [List.getD_eq_getElem?_getD,List.getElem?_append_right (by omega),htl]
    simp
   rw [h1,V_new _ hA]
   exact hv
theorem simpC_sem {gs:List Gt} {os:List Int} (hB:∀ x∈B,Bit x) (h:circB gs os=true):(simpC gs os).2.map (V B (simpC gs os).1)=os.map (V B gs):=by
 obtain ⟨h1,h2,h3⟩:=circ_parts h
 unfold simpC
 rw [if_pos h]
 show (mapO _ os).map _=_
 unfold mapO
 rw [List.map_map]
 refine List.map_congr_left fun w hw=>?_
 have hw2:=wireB_iff.1 (outs_wire h3 w hw)
 have:=simp_sem hB h2 gs.length (Nat.le_refl _) w.toNat (by omega)
 rw [List.take_length] at this
 show V B (simpTo gs).1 ((simpTo gs).2.getD w.toNat 0)=V B gs w
 rw [this,show ((w.toNat:Nat):Int)=w by omega]
theorem prTo_sem {gs:List Gt} {L:List Bool} (hgs:gatesB 0 gs=true) (hf:∀ j,Fed gs L j):∀ k,k≤gs.length→∀ i:Nat,i < k→L.getD i false=true→V B (prTo gs L k).1 ((prTo gs L k).2.getD i 0)=V B (gs.take k) (i:Int)
 | 0,_,i,hi=>absurd hi (by omega)
 | k + 1,hk,i,hi=>by
  intro hLi
  have hk':k < gs.length:=by omega
  have ih:=prTo_sem hgs hf k (by omega)
  have hok:=prTo_ok hgs hf k (by omega)
  have hg:=gatesB_at hgs (List.getElem?_eq_getElem hk')
  rw [Nat.zero_add] at hg
  have hA:(gs.take k).length=k:=by rw [List.length_take]; omega
  have e:gs.getD k ⟨0,0,0⟩=gs[k]:=by rw [List.getD_eq_getElem?_getD,List.getElem?_eq_getElem hk']; rfl
  have htl:=hok.tl
  rw [List.take_succ_eq_append_getElem hk',prTo]
  unfold prS
  rw [e]
  by_cases hl:L.getD k false=true
  ·rw [if_pos hl]
   dsimp only
   by_cases ei:i < k
   ·have h1:((prTo gs L k).2.set k ((prTo gs L k).1.length:Int)).getD i 0=(prTo gs L k).2.getD i 0:=by
     rw [List.getD_eq_getElem?_getD,List.getElem?_set,if_neg (by omega),←List.getD_eq_getElem?_getD]
    rw [h1,V_snoc _ (hok.t i ei hLi),V_snoc _ (wire_at (by omega)),ih i ei hLi]
   ·have e2:i=k:=by omega
    subst e2
    have h1:((prTo gs L i).2.set i ((prTo gs L i).1.length:Int)).getD i 0=((prTo gs L i).1.length:Int):=by
     rw [List.getD_eq_getElem?_getD,List.getElem?_set,if_pos rfl,if_pos (by omega)]
     rfl
    rw [h1,V_new _ rfl,V_new _ hA]
    obtain ⟨f1,f2⟩:=hf i gs[i] (List.getElem?_eq_getElem hk') hl
    have hsx:∀ x:Int,0≤x∧x < i→L.getD x.toNat false=true→V B (prTo gs L i).1 ((prTo gs L i).2.getD x.toNat 0)=V B (gs.take i) x:=fun x hx hL=>by
     rw [ih x.toNat (by omega) hL,show ((x.toNat:Nat):Int)=x by omega]
    unfold reG
    by_cases h34:gs[i].k=3∨gs[i].k=4
    ·have hw:=gate_is34 hg h34
     rw [if_pos h34,gval_op2 h34,hsx _ hw.1 (f1 h34).1,hsx _ hw.2 (f1 h34).2]
     exact (gval_op2 (a:=gs[i].a) (b:=gs[i].b) h34).symm
    rw [if_neg h34]
    by_cases h5:gs[i].k=5
    ·have hw:=gate_is5 hg h5
     have q:gval B (ev B (gs.take i)) gs[i]=1 - V B (gs.take i) gs[i].a:=by unfold gval; rw [if_neg (by omega),if_neg (by omega),if_neg (by omega),if_neg (by omega)]; rfl
     rw [if_pos h5,q,h5,gval5,hsx _ hw.1 (f2 h5)]
    rw [if_neg h5]
    unfold gval
    rcases gate_kind hg with h1 | h1 | h1 | h1 | h1
    ·rw [if_pos h1,if_pos h1]
    ·rw [if_neg (by omega),if_pos h1,if_neg (by omega),if_pos h1]
    ·exact absurd (.inl h1) h34
    ·exact absurd (.inr h1) h34
    ·exact absurd h1 h5
  ·rw [if_neg hl]
   have ei:i < k:=by
    rcases Nat.lt_or_ge i k with q | q
    ·exact q
    ·exact absurd (by rwa [show k=i by omega]) hl
   rw [ih i ei hLi,V_snoc _ (wire_at (by omega))]
theorem prunC_sem {gs:List Gt} {os:List Int} (h:circB gs os=true):(prunC gs os).2.map (V B (prunC gs os).1)=os.map (V B gs):=by
 obtain ⟨h1,h2,h3⟩:=circ_parts h
 unfold prunC
 rw [if_pos h]
 show (mapO _ os).map _=_
 unfold mapO
 rw [List.map_map]
 refine List.map_congr_left fun w hw=>?_
 have hw2:=wireB_iff.1 (outs_wire h3 w hw)
 have:=prTo_sem (B:=B) h2 (liveG_fed h2 os) gs.length (Nat.le_refl _) w.toNat (by omega) (liveG_out h3 w hw)
 rw [List.take_length] at this
 show V B (prTo gs (liveG gs os) gs.length).1 ((prTo gs (liveG gs os) gs.length).2.getD w.toNat 0)=V B gs w
 rw [this,show ((w.toNat:Nat):Int)=w by omega]
theorem optC_sem {gs:List Gt} {os:List Int} (hB:∀ x∈B,Bit x) (h:circB gs os=true):(optC gs os).2.map (V B (optC gs os).1)=os.map (V B gs):=by
 unfold optC
 rw [prunC_sem (simp_valid h),simpC_sem hB h]
end
open Go.RowKit
def garZs (s a:Int) (gs:List Gt):List Int:=(garTo s (deltaI s a) gs gs.length).1
def garTs (s a:Int) (gs:List Gt):List Int:=(garTo s (deltaI s a) gs gs.length).2
def garCs (s a:Int) (gs:List Gt):List Int:=conTo (deltaI s a) (garZs s a gs) gs gs.length
def wireL (s a:Int) (gs:List Gt) (ls:List Int):List Int:=evTo (garTs s a gs) (garCs s a gs) ls gs gs.length
def decO (ws ds os:List Int):List Int:=os.mapIdx fun i w=>xorI (oneI (ws.getD w.toNat 0)) (ds.getD i 0)
theorem labs_at {s a:Int} {B:List Int} {n:Nat} (k:Nat) (hk:k < n):(labsTo s a B n).getD k 0=lblI (zeroI s k) (deltaI s a) (B.getD k 0):=by
 rw [List.getD_eq_getElem?_getD,labsTo_get s a B k n hk]
 rfl
theorem wire_label {s a:Int} {B:List Int} {gs:List Gt} (hB:∀ x∈B,Bit x) (hg:gatesB 0 gs=true) {i:Nat} (hi:i < gs.length) :
  (wireL s a gs (labsTo s a B 80)).getD i 0=lblI ((garZs s a gs).getD i 0) (deltaI s a) ((ev B gs).getD i 0):=by
 have h:=ev_labels (s:=s) (d:=deltaI s a) (B:=B) (ls:=labsTo s a B 80) (gs:=gs) (delta_label s a) (delta_odd s a) hB hg (fun k hk=>labs_at k hk) gs.length (Nat.le_refl _) i hi
 rw [List.take_length] at h
 exact h
theorem zero_lbl (s a:Int) (gs:List Gt) (i:Nat):labelB ((garZs s a gs).getD i 0)=true:=getD_label (gar_labels gs (delta_label s a) _) i
theorem ev_bitD {B:List Int} {gs:List Gt} (hB:∀ x∈B,Bit x) (hg:gatesB 0 gs=true) (i:Nat):Bit ((ev B gs).getD i 0):=by
 have h:=ev_bit hB hg (i:Int)
 unfold V at h
 rwa [Int.toNat_natCast] at h
theorem dec_sem {s a:Int} {B:List Int} {gs:List Gt} {os:List Int} (hB:∀ x∈B,Bit x) (h:circB gs os=true) :
  decO (wireL s a gs (labsTo s a B 80)) (decL (garZs s a gs) os) os=os.map (V B gs):=by
 obtain ⟨h1,h2,h3⟩:=circ_parts h
 unfold decO decL
 apply List.ext_getElem?
 intro i
 rw [List.getElem?_mapIdx,List.getElem?_map]
 cases hi:os[i]? with
 | none=>rfl
 | some w =>
  have hw:=wireB_iff.1 (outs_wire h3 w (List.mem_of_getElem? hi))
  simp only [Option.map_some]
  congr 1
  rw [List.getD_eq_getElem?_getD,List.getD_eq_getElem?_getD,List.getElem?_map,hi]
  simp only [Option.map_some,Option.getD_some]
  rw [←List.getD_eq_getElem?_getD,wire_label hB h2 (by omega)]
  exact dec_lab (delta_label s a) (delta_odd s a) (zero_lbl s a gs _) (ev_bitD hB h2 _)
noncomputable def cirG (L:List St):List Gt:=(optC (compL L).g (compL L).o).1
noncomputable def cirO (L:List St):List Int:=(optC (compL L).g (compL L).o).2
theorem compL_yes {L:List St} (hu:unrB L=true):compL L=compC (unrL L):=by unfold compL; rw [if_pos hu]
theorem compL_valid {L:List St} (hu:unrB L=true):circB (compL L).g (compL L).o=true:=by
 rw [compL_yes hu]
 have h:=comp_ok L
 have h2:=unrL_len L
 have h3:=h.hi
 unfold circB
 rw [h.g,h.o,decide_eq_true (by omega)]
 rfl
theorem cir_valid {L:List St} (hu:unrB L=true):circB (cirG L) (cirO L)=true:=opt_valid (compL_valid hu)
noncomputable def secO (L:List St) (ins:List (List Int)) (s a:Int):List Int :=
 wordsL (decO (wireL s a (cirG L) (labsTo s a (inBits ins) 80)) (decL (garZs s a (cirG L)) (cirO L)) (cirO L))
theorem sec_run {L:List St} {ins:List (List Int)} (s a:Int) (hi:insB ins=true) (hu:unrB L=true):secO L ins s a=(runL ins (unrL L)).o:=by
 unfold secO
 rw [dec_sem inBits_bit (cir_valid hu)]
 unfold cirO cirG
 rw [optC_sem inBits_bit (compL_valid hu),compL_yes hu]
 exact (comp_sem hi L).o
theorem wireL_length (s a:Int) (gs:List Gt) (ls:List Int):(wireL s a gs ls).length=gs.length:=evTo_length _ _ _ _ _
end Go.Proofs.YtihbaieiempjeaaGreat
