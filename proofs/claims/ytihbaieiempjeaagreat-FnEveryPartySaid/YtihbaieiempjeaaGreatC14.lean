/- Lemmas of the proof: PruT. -/
import Derived.Test.YtihbaieiempjeaaGreatC0
import Derived.Test.YtihbaieiempjeaaGreatC8
import Derived.Test.YtihbaieiempjeaaGreatC7
import Derived.Laws.StructEq
import Derived.Deep.DeepCutAuto
import Derived.Test.YtihbaieiempjeaaGreatC13
namespace Go.Proofs.YtihbaieiempjeaaGreat
open Go.RowKit
theorem len3g {α:Type} (l:List α) (h:l.length=3):∃ a b c,l=[a,b,c]:=by
 match l,h with
 | [a,b,c],_=>exact ⟨a,b,c,rfl⟩
theorem run_equalIn_gt (w:World) (a b c d e f:Int) :
  (Op.equalIn 10000 96 (.agg #[.int .i64 a,.int .i64 b,.int .i64 c]) (.agg #[.int .i64 d,.int .i64 e,.int .i64 f])).run Tryz.prog w=.ok (eqGt ⟨a,b,c⟩ ⟨d,e,f⟩) w:=by
 rw [run_equalIn_struct w 9999 _ _ _ (by kernel_rfl) (by kernel_rfl)]
 have hf : (Tryz.prog.fieldsOf 96).toList.map (fun f => (f.name, f.type, f.offset)) = [("Kind", 3, 0), ("A", 3, 1), ("B", 3, 2)] := by kernel_rfl
 generalize (Tryz.prog.fieldsOf 96).toList=L at hf ⊢
 have hlen:L.length=3:=by simpa using congrArg List.length hf
 obtain ⟨f0,f1,f2,rfl⟩:=len3g _ hlen
 simp only [List.map_cons,List.map_nil,List.cons.injEq,Prod.mk.injEq,and_true] at hf
 obtain ⟨⟨n0,t0,o0⟩,⟨n1,t1,o1⟩,n2,t2,o2⟩:=hf
 have q0 : f0.name ≠ "_" := by rw [n0]; decide
 have q1 : f1.name ≠ "_" := by rw [n1]; decide
 have q2 : f2.name ≠ "_" := by rw [n2]; decide
 clear n0 n1 n2 hlen
 simp only [Op.eqFields,t0,t1,t2,o0,o1,o2]
 cases h0:a == d <;> cases h1:b == e <;> cases h2:c == f
 all_goals
  go_simp
  simp [eqGt, *]
theorem run_eqGuard_gt (w:World) (x y:Operand) (xs ys:Array Value):(eqGuard .eql 96 x y (.agg xs) (.agg ys)).run Tryz.prog w=.ok () w:=run_eqGuard_agg w _ _ _ _ _ _ (by kernel_rfl)
attribute [local go_sem ↓] run_equalIn_gt run_eqGuard_gt
open Go.RowKit
def GivesK (w:World) (gs:List Gt) (os:List Int) (e:Ending) (w':World):Prop :=
 ∃ G cg O co,e=.returned (.agg #[.slice G gs.length cg,.slice O os.length co])∧w'.ownsRow w.heap.size TG 3 (.slice G gs.length cg) gs.length (ints (flatG gs)) ∧
  w'.ownsRow w.heap.size 3 1 (.slice O os.length co) os.length (ints os)∧Below w.heap.size w w'
theorem give_k {w wr w':World} {rb:Nat} {gs:List Gt} {os:List Int} {G O:Option Addr} {cg co:Nat} {cs':Array Value} (hr:Blk wr rb TS cs') (h1:wr.ownsRow w.heap.size TG 3 (.slice G gs.length cg) gs.length (ints (flatG gs))) (h2:wr.ownsRow w.heap.size 3 1 (.slice O os.length co) os.length (ints os))
  (hb:Below w.heap.size w wr) (hrb:w.heap.size≤rb) (ht:Touch [rb] wr w'):GivesK w gs os (.returned (.agg #[.slice G gs.length cg,.slice O os.length co])) w':=by
 have hm:∀ q,q≠rb→q ∉ [rb]:=fun q h=>by simp [h]
 exact ⟨G,cg,O,co,rfl,own_touch' ht h1 (fun q hq=>hm q (own_ne_obj h1 hr (by decide) q hq)),own_touch' ht h2 (fun q hq=>hm q (own_ne_obj h2 hr (by decide) q hq)),
  ht.below' hb (fun i hi=>by simp at hi; omega) hb.size⟩
structure SimI (w:World) (bc gt kt:Nat) (G:Option Addr) (n cg:Nat) (O:Option Addr) (m co:Nat) (out:List Gt) (tw:List Int) (A:Option Addr) (kO:Nat) (os:List Int) (wr:World):Prop where
 x:Blk wr w.heap.size TS #[.slice G n cg,.slice O m co]
 r:Blk wr (w.heap.size + 1) TS #[.slice none 0 0,.slice none 0 0]
 b:Bld TS wr bc bc out (.slice A os.length kO)
 t:RowI wr gt tw.length kt tw
 o:wr.ownsRow bc 3 1 (.slice A os.length kO) os.length (ints os)
 no:∀ q,(Value.slice A os.length kO).ownBlock=some q→q≠gt
 bl:Below w.heap.size w wr
 lg:w.heap.size≤gt
 lb:w.heap.size + 2≤bc
section
variable {w:World} {bc gt kt:Nat} {G:Option Addr} {n cg:Nat} {O:Option Addr} {m co:Nat} {out:List Gt} {tw:List Int} {A:Option Addr} {kO:Nat} {os:List Int} {wr w':World}
theorem SimI.below (h:SimI w bc gt kt G n cg O m co out tw A kO os wr) (hb:Below wr.heap.size wr w'):SimI w bc gt kt G n cg O m co out tw A kO os w' :=
 ⟨h.x.past hb,h.r.past hb,h.b.below hb,h.t.below hb,own_below h.o hb,h.no,h.bl.trans (hb.mono h.bl.size),h.lg,h.lb⟩
theorem SimI.stay {out':List Gt} (h:SimI w bc gt kt G n cg O m co out tw A kO os wr) (hb:Bld TS w' bc bc out' (.slice A os.length kO)) (t:Stay TS bc wr w'):SimI w bc gt kt G n cg O m co out' tw A kO os w':=by
 have hl:=h.lb
 have hxl:=h.x.lt
 have hrl:=h.r.lt
 have hbl:=h.b.len
 exact ⟨(t.block _ hxl (.inl (by omega))).trans h.x,(t.block _ hrl (.inl (by omega))).trans h.r,hb,t.row h.t (by decide) (by decide),t.own h.o (by decide) (by decide),h.no,h.bl.trans ((t.below (by omega)).mono (by omega)),h.lg,h.lb⟩
theorem SimI.note {x:Int} {g' k':Nat} (h:SimI w bc gt kt G n cg O m co out tw A kO os wr) (h1:RowI w' g' (tw.length + 1) k' (tw ++ [x])) (h2:wr.grownBy w' (some gt)) (h3:g'=gt∨wr.heap.size≤g'):SimI w bc g' k' G n cg O m co out (tw ++ [x]) A kO os w':=by
 have hl:(tw ++ [x]).length=tw.length + 1:=by simp
 have hsz:=h.bl.size
 refine ⟨h.x.grown h2 (fun e=>?_),h.r.grown h2 (fun e=>?_),h.b.grown h2 h.t (by decide),by rw [hl]; exact h1,gr_own h2 h.o (fun q p hq hp=>?_),fun q hq=>?_,below_apps h.bl h2 h.bl.size h.lg,?_,h.lb⟩
 ·injection e with e
  exact h.t.not_blk h.x (by decide) e.symm
 ·injection e with e
  exact h.t.not_blk h.r (by decide) e.symm
 ·injection hq with hq
  subst hq
  exact fun e=>h.no p hp e.symm
 ·rcases h3 with rfl | h3
  ·exact h.no q hq
  ·have:=(own_in h.o q hq).2
   omega
 ·have:=h.lg
  rcases h3 with rfl | h3 <;> omega
theorem SimI.app {Gx:Option Addr} {cx:Nat} {ws:Int} {g' k':Nat} {w5 X:World} (h:SimI w bc gt kt G n cg O m co out tw A kO os wr) (hx:Blk wr bc TS #[.slice Gx out.length cx,.slice A os.length kO]) (hg1:wr.ownsRow bc TG 3 (.slice Gx out.length cx) out.length (ints (flatG out)))
  (hX:Below wr.heap.size wr X) (h1:w5.ownsRow bc 3 1 (.slice (some ⟨g',0,none⟩) (os.length + 1) k') (os.length + 1) (ints (os ++ [ws]))) (h2:X.grownBy w5 (Value.slice A os.length kO).ownBlock) (h3:(Value.slice A os.length kO).ownBlock=some g'∨wr.heap.size≤g') :
  SimI w bc gt kt G n cg O m co out tw (some ⟨g',0,none⟩) k' (os ++ [ws]) (w5.setCell ⟨bc,1,none⟩ (.slice (some ⟨g',0,none⟩) (os.length + 1) k')):=by
 have hl:(os ++ [ws]).length=os.length + 1:=by simp
 have hsz:=h.bl.size
 have hlb:=h.lb
 have hlo:=own_in (own_below h.o hX)
 have h2:=below_grown hX h2
 have x5:=gr_blk h2 hx (own_ne_obj h.o hx (by decide))
 have p5:=gr_blk h2 h.x (own_ne_obj h.o h.x (by decide))
 have r5:=gr_blk h2 h.r (own_ne_obj h.o h.r (by decide))
 have g5:=gr_own h2 hg1 (fun q p hq hp=>own_ne h.o hg1 (by decide) q p hq hp)
 have t5:RowI w5 gt tw.length kt tw:=gr_own h2 h.t (fun q p hq hp=>by have:=own_here p hp; subst this; exact h.no q hq)
 have b5:Below w.heap.size w w5:=gr_below h2 h.bl hsz (fun q hq=>by have:=(own_in h.o q hq).1; omega)
 have ts:Touch [bc] w5 (w5.setCell ⟨bc,1,none⟩ (.slice (some ⟨g',0,none⟩) (os.length + 1) k')):=(Touch.refl _ _).set_ _ _ (by simp)
 have hm:∀ q,q≠bc→q ∉ [bc]:=fun q hq=>by simp [hq]
 have htl:=h.t.lt
 refine ⟨Blk.touch ts p5 (hm _ (by omega)),Blk.touch ts r5 (hm _ (by omega)),⟨Gx,cx,?_,Nat.le_refl _,own_touch' ts g5 (fun q hq=>hm q (own_ne_obj g5 x5 (by decide) q hq))⟩,Row.touch t5 ts (hm _ (t5.not_blk x5 (by decide))),?_,fun q hq=>?_,ts.below' b5 (fun i hi=>by simp at hi; omega) b5.size,h.lg,h.lb⟩
 ·rw [hl]
  exact x5.set_ 1 _
 ·rw [hl]
  exact own_touch' ts h1 (fun q hq=>hm q (own_ne_obj h1 x5 (by decide) q hq))
 ·have:=own_here q hq
  subst this
  rcases h3 with h3 | h3
  ·exact h.no _ h3
  ·omega
end
open Go.RowKit
theorem infoB:(Tryz.prog.info? 4).map (fun i=>(i.zero,i.size,i.bytes))=some (some (.bool false),1,1):=by kernel_rfl
def bools (L:List Bool):List Value:=L.map Value.bool
theorem bools_get {L:List Bool} {k:Nat} {v:Bool} (h:L[k]? = some v):(bools L)[k]? = some (.bool v):=by simp [bools,h]
abbrev RowB (w:World) (g n c:Nat) (L:List Bool):Prop:=Row w g 4 1 n c (bools L)
theorem getD_some {L:List Bool} {i:Nat} (h:i < L.length):L[i]? = some (L.getD i false):=by
 rw [List.getD_eq_getElem?_getD,List.getElem?_eq_getElem h]
 rfl
section
variable {w w':World} {g n c:Nat} {L:List Bool}
theorem RowB.set_ (h:RowB w g n c L) (j:Nat) (v:Bool):RowB (w.setCell ⟨g,j,none⟩ (.bool v)) g n c (L.set j v)∧w.grownBy (w.setCell ⟨g,j,none⟩ (.bool v)) (some g):=by
 have r0:=World.ownsRow.stored (show w.ownsRow 0 4 1 (.slice (some ⟨g,0,none⟩) n c) n (bools L) from h) j (.bool v)
 refine ⟨?_,r0.2⟩
 have e:bools (L.set j v)=(bools L).set j (.bool v):=by unfold bools; rw [List.map_set]
 show Row _ _ _ _ _ _ _
 rw [e]
 exact r0.1
theorem RowI.set_ {xs:List Int} (h:RowI w g n c xs) (j:Nat) (v:Int):RowI (w.setCell ⟨g,j,none⟩ (.int .i64 v)) g n c (xs.set j v)∧w.grownBy (w.setCell ⟨g,j,none⟩ (.int .i64 v)) (some g):=by
 have r0:=World.ownsRow.stored (show w.ownsRow 0 3 1 (.slice (some ⟨g,0,none⟩) n c) n (ints xs) from h) j (.int .i64 v)
 refine ⟨?_,r0.2⟩
 have e:ints (xs.set j v)=(ints xs).set j (.int .i64 v):=by unfold ints; rw [List.map_set]
 show Row _ _ _ _ _ _ _
 rw [e]
 exact r0.1
end
theorem make_bools (n:Nat):bools (List.replicate n false)=(madeCells #[Value.bool false] n).toList:=by
 rw [toList_madeCells_one]
 simp [bools]
theorem make_ints (n:Nat):ints (List.replicate n 0)=(madeCells #[Value.int IntKind.i64 0] n).toList:=by
 rw [toList_madeCells_one]
 simp [ints]
theorem live0_at {n:Nat} {os:List Int} {m:Nat} {x:Int} (h:os[m]? = some x):live0 n (os.take (m + 1))=(live0 n (os.take m)).set x.toNat true:=by
 obtain ⟨hl,e⟩:=List.getElem?_eq_some_iff.1 h
 rw [List.take_succ_eq_append_getElem hl,e]
 simp [live0]
theorem wp_mark {P:Program} {c:Code} {Q:Exit→Act→World→Prop} {a:Act} {w:World} {g n cap:Nat} {L:List Bool} (h:RowB w g n cap L) (j:Nat) (v:Bool) (k:∀ W,RowB W g n cap (L.set j v)→w.grownBy W (some g)→Code.wp P c Q a W):Code.wp P c Q a (w.setCell ⟨g,j,none⟩ (.bool v)) :=
 k _ (h.set_ j v).1 (h.set_ j v).2
open Go.RowKit
theorem wp_noteI {P:Program} {c:Code} {Q:Exit→Act→World→Prop} {a:Act} {w:World} {g n cap:Nat} {L:List Int} (h:RowI w g n cap L) (j:Nat) (v:Int) (k:∀ W,RowI W g n cap (L.set j v)→w.grownBy W (some g)→Code.wp P c Q a W):Code.wp P c Q a (w.setCell ⟨g,j,none⟩ (.int .i64 v)) :=
 k _ (RowI.set_ h j v).1 (RowI.set_ h j v).2
theorem SimI.set_ {w:World} {bc gt kt:Nat} {G:Option Addr} {n cg:Nat} {O:Option Addr} {m co:Nat} {out:List Gt} {tw:List Int} {A:Option Addr} {kO:Nat} {os:List Int} {wr w':World} {j:Nat} {v:Int} (h:SimI w bc gt kt G n cg O m co out tw A kO os wr) (h1:RowI w' gt tw.length kt (tw.set j v)) (h2:wr.grownBy w' (some gt)):SimI w bc gt kt G n cg O m co out (tw.set j v) A kO os w':=by
 refine ⟨h.x.grown h2 (fun e=>?_),h.r.grown h2 (fun e=>?_),h.b.grown h2 h.t (by decide),by rw [List.length_set]; exact h1,gr_own h2 h.o (fun q p hq hp=>?_),h.no,below_apps h.bl h2 h.bl.size h.lg,h.lg,h.lb⟩
 ·injection e with e
  exact h.t.not_blk h.x (by decide) e.symm
 ·injection e with e
  exact h.t.not_blk h.r (by decide) e.symm
 ·injection hq with hq
  subst hq
  exact fun e=>h.no p hp e.symm
theorem row_apart {w:World} {g g' e e' s s' n n' c c':Nat} {xs ys:List Value} (h:Row w g e s n c xs) (h':Row w g' e' s' n' c' ys) (hne:e≠e'):g≠g':=by
 rintro rfl
 obtain ⟨_,c1,k1,_⟩:=h.parts
 obtain ⟨_,c2,k2,_⟩:=h'.parts
 rw [k1] at k2
 injection k2 with k2
 injection k2 with _ k2 _
 exact hne k2
end Go.Proofs.YtihbaieiempjeaaGreat
