/- Lemmas of the proof: GarM. -/
import Derived.Test.YtihbaieiempjeaaGreatD4
import Derived.Test.YtihbaieiempjeaaGreatD14
namespace Go.Proofs.YtihbaieiempjeaaGreat
open Go.RowKit
abbrev TGb:Nat:=76
abbrev TTp:Nat:=27
def GivesG (w:World) (d:Int) (zs ts:List Int) (e:Ending) (w':World):Prop :=
 ∃ Z cz T ct,e=.returned (.tuple #[.agg #[.int .i64 d,.slice Z zs.length cz,.slice T ts.length ct],.bool true])∧w'.ownsRow w.heap.size 3 1 (.slice Z zs.length cz) zs.length (ints zs) ∧
  w'.ownsRow w.heap.size 3 1 (.slice T ts.length ct) ts.length (ints ts)∧Below w.heap.size w w'
structure GarM (w:World) (bc bt bg br tr:Nat) (cs rs:Array Value) (s a d:Int) (zs ts:List Int) (Z:Option Addr) (kz:Nat) (T:Option Addr) (kt:Nat) (wr:World):Prop where
 c:Blk wr bc TS cs
 t:Blk wr bt TTp #[.int .i64 s,.int .i64 a]
 g:Blk wr bg TGb #[.int .i64 d,.slice Z zs.length kz,.slice T ts.length kt]
 r:Blk wr br tr rs
 z:wr.ownsRow w.heap.size 3 1 (.slice Z zs.length kz) zs.length (ints zs)
 ta:wr.ownsRow w.heap.size 3 1 (.slice T ts.length kt) ts.length (ints ts)
 ne:∀ q,(Value.slice Z zs.length kz).ownBlock=some q→(Value.slice T ts.length kt).ownBlock=some q→False
 bl:Below w.heap.size w wr
 lg:w.heap.size≤bg
 hr:br≠bg
 hi:3≠tr
section
variable {w:World} {bc bt bg br tr:Nat} {cs rs:Array Value} {s a d:Int} {zs ts:List Int} {Z:Option Addr} {kz:Nat} {T:Option Addr} {kt:Nat} {wr w':World}
theorem GarM.below (h:GarM w bc bt bg br tr cs rs s a d zs ts Z kz T kt wr) (hb:Below wr.heap.size wr w'):GarM w bc bt bg br tr cs rs s a d zs ts Z kz T kt w' :=
 ⟨h.c.past hb,h.t.past hb,h.g.past hb,h.r.past hb,own_below h.z hb,own_below h.ta hb,h.ne,h.bl.trans (hb.mono h.bl.size),h.lg,h.hr,h.hi⟩
theorem GarM.zero {v:Int} {A:Option Addr} {k':Nat} {w5 X:World} (h:GarM w bc bt bg br tr cs rs s a d zs ts Z kz T kt wr) (hX:Below wr.heap.size wr X) (h1:w5.ownsRow w.heap.size 3 1 (.slice A (zs.length + 1) k') (zs.length + 1) (ints (zs ++ [v]))) (h2:X.grownBy w5 (Value.slice Z zs.length kz).ownBlock)
  (h3:∀ q,(Value.slice A (zs.length + 1) k').ownBlock=some q→(Value.slice Z zs.length kz).ownBlock=some q∨wr.heap.size≤q):GarM w bc bt bg br tr cs rs s a d (zs ++ [v]) ts A k' T kt (w5.setCell ⟨bg,1,none⟩ (.slice A (zs.length + 1) k')):=by
 have hl:(zs ++ [v]).length=zs.length + 1:=by simp
 have hsz:=h.bl.size
 have h2:=below_grown hX h2
 have c5:=gr_blk h2 h.c (own_ne_obj h.z h.c (by decide))
 have t5:=gr_blk h2 h.t (own_ne_obj h.z h.t (by decide))
 have g5:=gr_blk h2 h.g (own_ne_obj h.z h.g (by decide))
 have r5:=gr_blk h2 h.r (own_ne_obj h.z h.r h.hi)
 have ta5:=gr_own h2 h.ta (fun q p hq hp e=>by subst e; exact h.ne q hq hp)
 have b5:Below w.heap.size w w5:=gr_below h2 h.bl hsz (fun q hq=>by have:=(own_in h.z q hq).1; omega)
 have ts5:Touch [bg] w5 (w5.setCell ⟨bg,1,none⟩ (.slice A (zs.length + 1) k')):=(Touch.refl _ _).set_ _ _ (by simp)
 have hm:∀ q,q≠bg→q ∉ [bg]:=fun q hq=>by simp [hq]
 have hbc:bc≠bg:=fun e=>by
  have h1:=h.c
  have h2:=h.g
  subst e
  unfold Blk at h1 h2
  rw [h1] at h2
  injection h2 with h2
  injection h2 with _ h2 _
  exact absurd h2 (by decide)
 have hbt:bt≠bg:=fun e=>by
  have h1:=h.t
  have h2:=h.g
  subst e
  unfold Blk at h1 h2
  rw [h1] at h2
  injection h2 with h2
  injection h2 with _ h2 _
  exact absurd h2 (by decide)
 refine ⟨Blk.touch ts5 c5 (hm _ hbc),Blk.touch ts5 t5 (hm _ hbt),?_,Blk.touch ts5 r5 (hm _ h.hr),?_,own_touch' ts5 ta5 (fun q hq=>hm q (own_ne_obj ta5 g5 (by decide) q hq)),?_,ts5.below' b5 (fun i hi=>by simp at hi; have:=h.lg; omega) b5.size,h.lg,h.hr,h.hi⟩
 ·rw [hl]
  exact g5.set_ 1 _
 ·rw [hl]
  exact own_touch' ts5 h1 (fun q hq=>hm q (own_ne_obj h1 g5 (by decide) q hq))
 ·intro q hq hp
  rw [hl] at hq
  rcases h3 q hq with h3 | h3
  ·exact h.ne _ h3 hp
  ·have:=(own_in h.ta q hp).2
   omega
theorem GarM.tab {v x:Int} {A:Option Addr} {k':Nat} {w5 X:World} (h:GarM w bc bt bg br tr cs rs s a d zs ts Z kz T kt wr) (hX:Below wr.heap.size wr X) (h1:w5.ownsRow w.heap.size 3 1 (.slice A (ts.length + 2) k') (ts.length + 2) (ints (ts ++ [v,x]))) (h2:X.grownBy w5 (Value.slice T ts.length kt).ownBlock)
  (h3:∀ q,(Value.slice A (ts.length + 2) k').ownBlock=some q→(Value.slice T ts.length kt).ownBlock=some q∨wr.heap.size≤q):GarM w bc bt bg br tr cs rs s a d zs (ts ++ [v,x]) Z kz A k' (w5.setCell ⟨bg,2,none⟩ (.slice A (ts.length + 2) k')):=by
 have hl:(ts ++ [v,x]).length=ts.length + 2:=by simp
 have hsz:=h.bl.size
 have h2:=below_grown hX h2
 have c5:=gr_blk h2 h.c (own_ne_obj h.ta h.c (by decide))
 have t5:=gr_blk h2 h.t (own_ne_obj h.ta h.t (by decide))
 have g5:=gr_blk h2 h.g (own_ne_obj h.ta h.g (by decide))
 have r5:=gr_blk h2 h.r (own_ne_obj h.ta h.r h.hi)
 have z5:=gr_own h2 h.z (fun q p hq hp e=>by subst e; exact h.ne q hp hq)
 have b5:Below w.heap.size w w5:=gr_below h2 h.bl hsz (fun q hq=>by have:=(own_in h.ta q hq).1; omega)
 have ts5:Touch [bg] w5 (w5.setCell ⟨bg,2,none⟩ (.slice A (ts.length + 2) k')):=(Touch.refl _ _).set_ _ _ (by simp)
 have hm:∀ q,q≠bg→q ∉ [bg]:=fun q hq=>by simp [hq]
 have hbc:bc≠bg:=fun e=>by
  have h1:=h.c
  have h2:=h.g
  subst e
  unfold Blk at h1 h2
  rw [h1] at h2
  injection h2 with h2
  injection h2 with _ h2 _
  exact absurd h2 (by decide)
 have hbt:bt≠bg:=fun e=>by
  have h1:=h.t
  have h2:=h.g
  subst e
  unfold Blk at h1 h2
  rw [h1] at h2
  injection h2 with h2
  injection h2 with _ h2 _
  exact absurd h2 (by decide)
 refine ⟨Blk.touch ts5 c5 (hm _ hbc),Blk.touch ts5 t5 (hm _ hbt),?_,Blk.touch ts5 r5 (hm _ h.hr),own_touch' ts5 z5 (fun q hq=>hm q (own_ne_obj z5 g5 (by decide) q hq)),?_,?_,ts5.below' b5 (fun i hi=>by simp at hi; have:=h.lg; omega) b5.size,h.lg,h.hr,h.hi⟩
 ·rw [hl]
  exact g5.set_ 2 _
 ·rw [hl]
  exact own_touch' ts5 h1 (fun q hq=>hm q (own_ne_obj h1 g5 (by decide) q hq))
 ·intro q hq hp
  rw [hl] at hp
  rcases h3 q hp with h3 | h3
  ·exact h.ne _ hq h3
  ·have:=(own_in h.z q hq).2
   omega
theorem GarM.give {w5:World} (h:GarM w bc bt bg br tr cs rs s a d zs ts Z kz T kt wr) (ht:Touch [br] wr w5) (hb:w.heap.size≤br):GivesG w d zs ts (.returned (.tuple #[.agg #[.int .i64 d,.slice Z zs.length kz,.slice T ts.length kt],.bool true])) w5:=by
 have hm:∀ q,q≠br→q ∉ [br]:=fun q hq=>by simp [hq]
 exact ⟨Z,kz,T,kt,rfl,own_touch' ht h.z (fun q hq=>hm q (own_ne_obj h.z h.r h.hi q hq)),own_touch' ht h.ta (fun q hq=>hm q (own_ne_obj h.ta h.r h.hi q hq)),ht.below' h.bl (fun i hi=>by simp at hi; omega) h.bl.size⟩
end
theorem app_ints {w:World} {ops:Array Oper} {rest:List Oper} {o:Oper} {a:Act} {Q:Exit→Act→World→Prop} (hgd:o.guard=none) (s x:Operand) (ho:o.op=.call { callee:=.builtin .append,args:=#[s,x],argTypes:=#[30,30] })
  {base n:Nat} {v:Value} {L:List Int} (hs:a.eval s=v) (hown:w.ownsRow base 3 1 v n (ints L)) (hbase:base≤w.heap.size) {b off m k:Nat} (M:List Int) (hx:a.eval x=.slice (some ⟨b,off,none⟩) m k) (hl:M.length=m)
  (hc:∀ j u,(ints M)[j]? = some u→w.cell? ⟨b,off + j,none⟩=some u) (hb:n + m≤1000000)
  (h:∀ A c' w',w'.ownsRow base 3 1 (.slice A (n + m) c') (n + m) (ints (L ++ M))→w.grownBy w' v.ownBlock→(∀ q,(Value.slice A (n + m) c').ownBlock=some q→v.ownBlock=some q∨q=w.heap.size)→wpList Tryz.prog ops Q rest (a.put o.dst (.slice A (n + m) c')) w'):wpList Tryz.prog ops Q (o :: rest) a w :=
 wpList_appi hgd s x _ ho base _ _ 1 8 Tryz.underlying30 infoI rfl (by decide) v n (ints L) hs hown ⟨b,off,none⟩ m k (ints M) hx (by rw [ints_length,hl,Nat.mul_one]) (cells_add hc) (ints_one _) (by omega) (by decide) hbase
  fun A c w' h1 h2 h3=>h A c w' (by rw [ints_app]; exact h1) h2 h3
theorem gar_step {s d:Int} {gs:List Gt} {j:Nat} {g:Gt} (h:gs[j]? = some g):garTo s d gs (j + 1)=((garTo s d gs j).1 ++ [garZ s d (garTo s d gs j).1 j g],(garTo s d gs j).2 ++ garT d (garTo s d gs j).1 j g):=by
 rw [garTo,List.getD_eq_getElem?_getD,h]
 rfl
theorem garT_no {d:Int} {zs:List Int} {n:Nat} {g:Gt} (h:g.k≠4):garT d zs n g=[]:=by
 unfold garT
 rw [if_neg (by simpa using h)]
end Go.Proofs.YtihbaieiempjeaaGreat
