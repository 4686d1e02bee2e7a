/- Lemmas of the proof: SimL. -/
import Derived.Test.YtihbaieiempjeaaGreatD16
import Derived.Maps.Own
import Derived.DeepKeys5
import Derived.Test.YtihbaieiempjeaaGreatD0
import Derived.Test.YtihbaieiempjeaaGreatD14
namespace Go.Proofs.YtihbaieiempjeaaGreat
open Go.RowKit
def gv (g:Gt):Value:=.agg #[.int .i64 g.k,.int .i64 g.a,.int .i64 g.b]
theorem laidG:laidOutB Tryz.prog=true:=by kernel_rfl
theorem keyedG:Go.Maps.Keyed Tryz.prog TG:=Go.Maps.Keyed.of_law (deep_law_gate laidG (of_decide_eq_true (by kernel_rfl)) (of_decide_eq_true (by kernel_rfl)) (by kernel_rfl) (by kernel_rfl))
theorem lits_int {d:Nat} {n:Int} (h:(Lit.int .i64 n).wf=true):Tryz.prog.keyLits (d + 1) 3 [.int .i64 n]=some [.int .i64 n]:=by
 unfold Program.keyLits
 rw [Tryz.underlying3]
 dsimp only
 rw [if_pos ⟨rfl,h⟩]
theorem key_gv (g:Gt) (hk:(Lit.int .i64 g.k).wf=true) (ha:(Lit.int .i64 g.a).wf=true) (hb:(Lit.int .i64 g.b).wf=true):∃ l,keyOf Tryz.prog TG (gv g)=some l:=by
 have hsz:2≤Tryz.prog.types.size:=of_decide_eq_true (by kernel_rfl)
 obtain ⟨m,hm⟩:∃ m,Tryz.prog.types.size=m + 1:=⟨Tryz.prog.types.size - 1,by omega⟩
 unfold keyOf
 rw [Tryz.underlying96]
 dsimp only
 rw [if_pos (by kernel_rfl),hm]
 unfold Program.keyLits
 rw [Tryz.underlying96]
 dsimp only
 rw [if_pos ⟨by kernel_rfl,by kernel_rfl⟩]
 have q0:((gv g).cells.toList.drop 0).take (Tryz.prog.cellsOf 3)=[.int .i64 g.k]:=by kernel_rfl
 have q1:((gv g).cells.toList.drop 1).take (Tryz.prog.cellsOf 3)=[.int .i64 g.a]:=by kernel_rfl
 have q2:((gv g).cells.toList.drop 2).take (Tryz.prog.cellsOf 3)=[.int .i64 g.b]:=by kernel_rfl
 simp only [List.mapM_cons,List.mapM_nil,q0,q1,q2,lits_int hk,lits_int ha,lits_int hb]
 exact ⟨_,rfl⟩
theorem gv_inj {g h:Gt} (e:gv g=gv h):g=h:=by
 obtain ⟨k,a,b⟩:=g
 obtain ⟨k',a',b'⟩:=h
 simp only [gv,Value.agg.injEq,Array.mk.injEq,List.cons.injEq,Value.int.injEq,true_and,and_true] at e
 obtain ⟨rfl,rfl,rfl⟩:=e
 rfl
def wfG (g:Gt):Prop:=(-1000000≤g.k∧g.k≤1000000)∧(-1000000≤g.a∧g.a≤1000000)∧(-1000000≤g.b∧g.b≤1000000)
theorem wf_small {n:Int} (h:-1000000≤n∧n≤1000000):(Lit.int .i64 n).wf=true:=by
 have h1:IntKind.i64.min = -9223372036854775808:=by decide
 have h2:IntKind.i64.max=9223372036854775807:=by decide
 show (decide (IntKind.i64.min≤n) && decide (n≤IntKind.i64.max))=true
 rw [h1,h2,decide_eq_true (by omega),decide_eq_true (by omega)]
 rfl
theorem key_of {g:Gt} (h:wfG g):∃ l,keyOf Tryz.prog TG (gv g)=some l:=key_gv g (wf_small h.1) (wf_small h.2.1) (wf_small h.2.2)
def GMap (w:World) (b:Nat) (gs:List Gt):Prop :=
 ∃ (es:Array MapEntry) (clock:Nat),w.heap[b]? = some (.map es clock)∧es.size=gs.length∧∀ (i:Nat) (g:Gt),gs[i]? = some g→∃ n,es[i]? = some ⟨gv g,.int .i64 (i:Int),n⟩
abbrev TK:Nat:=168
section
variable {w w':World} {b:Nat} {gs:List Gt} {g:Gt}
theorem GMap.lt (h:GMap w b gs):b < w.heap.size:=by
 obtain ⟨es,clock,hb,_⟩:=h
 rcases Nat.lt_or_ge b w.heap.size with h0 | h0
 ·exact h0
 ·rw [Array.getElem?_eq_none h0] at hb; cases hb
theorem GMap.keep (h:GMap w b gs) (e:w'.heap[b]? = w.heap[b]?):GMap w' b gs:=by
 obtain ⟨es,clock,hb,r⟩:=h
 exact ⟨es,clock,e.trans hb,r⟩
theorem GMap.below (h:GMap w b gs) (hb:Below w.heap.size w w'):GMap w' b gs:=h.keep (hb.block b h.lt)
theorem GMap.keys (h:GMap w b gs) (hw:∀ g∈gs,wfG g) {es:Array MapEntry} {clock:Nat} (hb:w.heap[b]? = some (.map es clock)):∀ e∈es.toList,∃ l,keyOf Tryz.prog TG e.key=some l:=by
 obtain ⟨es',clock',hb',hs,he⟩:=h
 rw [hb] at hb'
 injection hb' with hb'
 injection hb' with e1 e2
 subst e1
 intro e hm
 obtain ⟨i,hi,rfl⟩:=List.getElem_of_mem hm
 have hi':i < es.size:=by simpa using hi
 obtain ⟨n,hn⟩:=he i gs[i] (List.getElem?_eq_getElem (by omega))
 have:es.toList[i]=⟨gv gs[i],.int .i64 (i:Int),n⟩:=by
  have:=(Array.getElem?_eq_some_iff.1 hn).2
  simpa using this
 rw [this]
 exact key_of (hw _ (List.getElem_mem _))
theorem GMap.find (h:GMap w b gs) (hap:Apart gs) (hw:∀ g∈gs,wfG g) (hg:wfG g) {es:Array MapEntry} {clock:Nat} (hb:w.heap[b]? = some (.map es clock)) :
  (findG gs g < gs.length∧(Instr.findKey TG (gv g) es.toList).run Tryz.prog w=.ok (some (findG gs g,.int .i64 (findG gs g:Int))) w) ∨
  (¬ findG gs g < gs.length∧(Instr.findKey TG (gv g) es.toList).run Tryz.prog w=.ok none w):=by
 have hk:=h.keys hw hb
 obtain ⟨l,hl⟩:=key_of hg
 obtain ⟨es',clock',hb',hs,he⟩:=h
 rw [hb] at hb'
 injection hb' with hb'
 injection hb' with e1 e2
 subst e1
 rcases keyedG.find w hl es.toList hk with ⟨h1,h2⟩ | ⟨j,e,h1,h2,h3⟩
 ·refine .inr ⟨fun hlt=>?_,h1⟩
  obtain ⟨n,hn⟩:=he _ g (findG_lt hlt)
  exact h2 _ (Array.mem_toList_iff.2 (Array.mem_of_getElem? hn)) rfl
 ·have hj:es[j]? = some e:=by simpa using h2
  have hjl:=(Array.getElem?_eq_some_iff.1 hj).1
  obtain ⟨n,hn⟩:=he j gs[j] (List.getElem?_eq_getElem (by omega))
  rw [hj] at hn
  injection hn with hn
  subst hn
  have hgj:gs[j]? = some g:=by rw [List.getElem?_eq_getElem (by omega),gv_inj h3]
  have h4:=findG_at hgj
  have h5:=hap _ _ _ (findG_lt (l:=gs) (g:=g) (by omega)) hgj
  rw [h5]
  exact .inl ⟨by omega,h1⟩
theorem GMap.look_yes (h:GMap w b gs) (hap:Apart gs) (hw:∀ g∈gs,wfG g) (hg:wfG g) (hf:findG gs g < gs.length) :
  (Instr.lookup TK (.map (some b)) (gv g) true).run Tryz.prog w=.ok (.tuple #[.int .i64 (findG gs g:Int),.bool true]) w:=by
 have h0:=h
 obtain ⟨es,clock,hb,_⟩:=h
 obtain ⟨l,hl⟩:=key_of hg
 rcases h0.find hap hw hg hb with ⟨_,h1⟩ | ⟨h1,_⟩
 ·simp [Instr.lookup,run_underlying Tryz.underlying168,MapKept.run_getObj_map hb,keyedG.check w _ hl,h1,Result.andThen]
 ·exact absurd hf h1
theorem GMap.look_no (h:GMap w b gs) (hap:Apart gs) (hw:∀ g∈gs,wfG g) (hg:wfG g) (hf:¬ findG gs g < gs.length) (hz:(zeroValue 3).run Tryz.prog w=.ok (.int .i64 0) w) :
  (Instr.lookup TK (.map (some b)) (gv g) true).run Tryz.prog w=.ok (.tuple #[.int .i64 0,.bool false]) w:=by
 have h0:=h
 obtain ⟨es,clock,hb,_⟩:=h
 obtain ⟨l,hl⟩:=key_of hg
 rcases h0.find hap hw hg hb with ⟨h1,_⟩ | ⟨_,h1⟩
 ·exact absurd h1 hf
 ·simp [Instr.lookup,run_underlying Tryz.underlying168,MapKept.run_getObj_map hb,keyedG.check w _ hl,h1,hz,Result.andThen]
theorem GMap.put (h:GMap w b gs) (hap:Apart gs) (hw:∀ g∈gs,wfG g) (hg:wfG g) (hf:¬ findG gs g < gs.length) :
  ∃ w',(Instr.mapUpdate TK (.map (some b)) (gv g) (.int .i64 (gs.length:Int))).run Tryz.prog w=.ok () w'∧GMap w' b (gs ++ [g])∧w.grownBy w' (some b):=by
 have h0:=h
 obtain ⟨es,clock,hb,hs,he⟩:=h
 obtain ⟨l,hl⟩:=key_of hg
 rcases h0.find hap hw hg hb with ⟨h1,_⟩ | ⟨_,h1⟩
 ·exact absurd h1 hf
 ·refine ⟨ChangeMaps.setBlock w b (.map (es.push ⟨gv g,.int .i64 (gs.length:Int),clock⟩) (clock + 1)),?_,⟨_,_,ChangeMaps.heap_setBlock_same hb _,?_,fun i x hx=>?_⟩,?_⟩
  ·simp [Instr.mapUpdate,run_underlying Tryz.underlying168,MapKept.run_getObj_map hb,keyedG.check w false hl,h1,MapKept.run_setObj_map _ hb,Result.andThen,ChangeMaps.setBlock]
  ·simp [hs]
  ·by_cases hi:i < gs.length
   ·rw [List.getElem?_append_left hi] at hx
    obtain ⟨n,hn⟩:=he i x hx
    exact ⟨n,by rw [Array.getElem?_push_lt (by omega)]; rw [Array.getElem?_eq_getElem (by omega)] at hn; exact hn⟩
   ·have hil:=(List.getElem?_eq_some_iff.1 hx).1
    rw [List.length_append,List.length_singleton] at hil
    obtain rfl:i=gs.length:=by omega
    simp at hx
    subst hx
    exact ⟨clock,by rw [←hs]; simp⟩
  ·exact ⟨rfl,rfl,rfl,by simp [ChangeMaps.setBlock],fun i _ hi=>ChangeMaps.heap_setBlock_other hb _ (fun e=>hi (by rw [e]))⟩
end
open Go.RowKit
abbrev TM:Nat:=170
structure StayM (m lo:Nat) (w w':World):Prop where
 os:w'.os=w.os
 tape:w'.tape=w.tape
 output:w'.output=w.output
 size:w.heap.size≤w'.heap.size
 block:∀ i,i < w.heap.size→(i < lo∨(Other TM w i∧i≠m))→w'.heap[i]? = w.heap[i]?
structure SimpB (w:World) (lo bp m:Nat) (gs:List Gt):Prop where
 b:Bld TM w lo bp gs (.map (some m))
 k:GMap w m gs
 lo:lo≤m
section
variable {m lo bp:Nat} {w w1 w':World} {gs:List Gt}
theorem StayM.refl (m lo:Nat) (w:World):StayM m lo w w:=⟨rfl,rfl,rfl,Nat.le_refl _,fun _ _ _=>rfl⟩
theorem StayM.trans (h1:StayM m lo w w1) (h2:StayM m lo w1 w'):StayM m lo w w' :=
 ⟨h2.os.trans h1.os,h2.tape.trans h1.tape,h2.output.trans h1.output,Nat.le_trans h1.size h2.size,fun i hi ho=>by
  have e:=h1.block i hi ho
  refine (h2.block i (Nat.lt_of_lt_of_le hi h1.size) ?_).trans e
  rcases ho with ho | ho
  ·exact .inl ho
  ·exact .inr ⟨fun cs t m hc=>ho.1 cs t m (e.symm.trans hc),ho.2⟩⟩
theorem StayM.of_below (h:Below w.heap.size w w'):StayM m lo w w':=⟨h.os,h.tape,h.output,h.size,fun i hi _=>h.block i hi⟩
theorem StayM.below (h:StayM m lo w w') (hl:lo≤w.heap.size):Below lo w w':=⟨h.os,h.tape,h.output,h.size,fun i hi=>h.block i (by omega) (.inl hi)⟩
theorem StayM.cells (h:StayM m lo w w') {i:Nat} {cs:Array Value} {t:TypeId} {q:Nat × Nat} (hc:w.heap[i]? = some (.cells cs t q)) (hm:∃ es clock,w.heap[m]? = some (.map es clock)) (h1:t≠TM) (h2:t≠TG):w'.heap[i]? = some (.cells cs t q):=by
 have hlt:i < w.heap.size:=by
  rcases Nat.lt_or_ge i w.heap.size with h0 | h0
  ·exact h0
  ·rw [Array.getElem?_eq_none h0] at hc; cases hc
 refine (h.block i hlt (.inr ⟨fun cs' t' q' hc'=>?_,?_⟩)).trans hc
 ·rw [hc] at hc'
  injection hc' with hc'
  injection hc' with _ e2 _
  subst e2
  exact ⟨h1,h2⟩
 ·rintro rfl
  obtain ⟨es,clock,he⟩:=hm
  rw [hc] at he
  injection he with he
  cases he
theorem GMap.is (h:GMap w m gs):∃ es clock,w.heap[m]? = some (.map es clock):=by
 obtain ⟨es,clock,hb,_⟩:=h
 exact ⟨es,clock,hb⟩
theorem StayM.own (h:StayM m lo w w') (hm:GMap w m gs) {base e size n:Nat} {v:Value} {xs:List Value} (k:w.ownsRow base e size v n xs) (h1:e≠TM) (h2:e≠TG):w'.ownsRow base e size v n xs:=by
 refine ⟨k.1,?_⟩
 rcases k.2 with hv | ⟨g,cap,cur,hv,hg,hh,r⟩
 ·exact .inl hv
 ·exact .inr ⟨g,cap,cur,hv,hg,h.cells hh hm.is h1 h2,r⟩
theorem StayM.row (h:StayM m lo w w') (hm:GMap w m gs) {g e size n c:Nat} {xs:List Value} (k:Row w g e size n c xs) (h1:e≠TM) (h2:e≠TG):Row w' g e size n c xs:=h.own hm k h1 h2
theorem StayM.blk (h:StayM m lo w w') (hm:GMap w m gs) {b t:Nat} {cs:Array Value} (k:Blk w b t cs) (h1:t≠TM) (h2:t≠TG):Blk w' b t cs:=h.cells k hm.is h1 h2
theorem SimpB.below (h:SimpB w lo bp m gs) (hb:Below w.heap.size w w'):SimpB w' lo bp m gs:=⟨h.b.below hb,h.k.below hb,h.lo⟩
theorem GMap.not_row {g e size n c:Nat} {xs:List Value} (h:GMap w m gs) (k:Row w g e size n c xs):g≠m:=by
 obtain ⟨es,clock,hb,_⟩:=h
 obtain ⟨_,cur,h1,_⟩:=k.parts
 rintro rfl
 rw [h1] at hb
 injection hb with hb
 cases hb
theorem GMap.not_own {base e size n:Nat} {v:Value} {xs:List Value} (h:GMap w m gs) (k:w.ownsRow base e size v n xs):∀ q,v.ownBlock=some q→q≠m:=fun q hq=>by
 obtain ⟨es,clock,hb,_⟩:=h
 rcases k.2 with ⟨hv,_⟩ | ⟨g,cap,cur,hv,_,hh,_⟩
 ·rw [hv] at hq; cases hq
 ·rw [hv] at hq
  have e1:g=q:=Option.some.inj hq
  subst e1
  rintro rfl
  rw [hh] at hb
  injection hb with hb
  cases hb
theorem GMap.not_blk {b t:Nat} {cs:Array Value} (h:GMap w m gs) (k:Blk w b t cs):b≠m:=by
 obtain ⟨es,clock,hb,_⟩:=h
 rintro rfl
 unfold Blk at k
 rw [k] at hb
 injection hb with hb
 cases hb
end
theorem GMap.stay {w w':World} {m lo:Nat} {gs:List Gt} (h:GMap w m gs) (hs:Stay TM lo w w'):GMap w' m gs:=by
 have h0:=h
 obtain ⟨es,clock,hb,_⟩:=h
 refine h0.keep (hs.block m h0.lt (.inr fun cs t q hc=>?_))
 rw [hb] at hc
 injection hc with hc
 cases hc
theorem StayM.of_stay {w w':World} {m lo:Nat} (hs:Stay TM lo w w'):StayM m lo w w':=⟨hs.os,hs.tape,hs.output,hs.size,fun i hi ho=>hs.block i hi (ho.imp id And.left)⟩
theorem simp_new {w wz w1:World} {lo bp m q:Nat} {gs:List Gt} {g:Gt} {A A':Option Addr} {c c':Nat} {qs:Array Value} (hz:Below w.heap.size w wz) (hG:GMap w m gs) (hb:Blk w bp TM #[.slice A gs.length c,.map (some m)]) (hl:lo≤bp)
  (ho:w.ownsRow lo TG 3 (.slice A gs.length c) gs.length (ints (flatG gs))) (hq:Blk w q TG qs) (hqo:∀ p,(Value.slice A gs.length c).ownBlock=some p→p≠q) (hqb:q≠bp)
  (ho':w1.ownsRow lo TG 3 (.slice A' (gs.length + 1) c') (gs.length + 1) (ints (flatG gs) ++ ints (threeG g))) (hg:wz.grownBy w1 (Value.slice A gs.length c).ownBlock) :
  Bld TM (w1.setCell ⟨bp,0,none⟩ (.slice A' (gs.length + 1) c')) lo bp (gs ++ [g]) (.map (some m))∧GMap (w1.setCell ⟨bp,0,none⟩ (.slice A' (gs.length + 1) c')) m gs∧StayM m lo w (w1.setCell ⟨bp,0,none⟩ (.slice A' (gs.length + 1) c')) ∧
   Blk (w1.setCell ⟨bp,0,none⟩ (.slice A' (gs.length + 1) c')) bp TM #[.slice A' (gs.length + 1) c',.map (some m)]∧Blk (w1.setCell ⟨bp,0,none⟩ (.slice A' (gs.length + 1) c')) q TG qs:=by
 have hbz:=hb.past hz
 have hoz:=own_below ho hz
 have hqz:=hq.past hz
 obtain ⟨h1,h2,h3⟩:=bld_put (T:=TM) (by decide) hbz hl hoz ho' hg
 refine ⟨h2,(hG.below hz).stay h3,(StayM.of_below hz).trans (StayM.of_stay h3),h1.set_ 0 _,?_⟩
 exact (Below.heap_setCell w1 _ _ q hqb).trans (gr_blk hg hqz hqo)
theorem simp_map {w w':World} {lo bp m:Nat} {gs:List Gt} {g:Gt} (hB:Bld TM w lo bp (gs ++ [g]) (.map (some m))) (hl:lo≤m) (h0:GMap w m gs) (hG:GMap w' m (gs ++ [g])) (hg:w.grownBy w' (some m)):SimpB w' lo bp m (gs ++ [g])∧StayM m lo w w':=by
 obtain ⟨A,c,hb,hlb,ho⟩:=hB
 have hq:=h0.not_blk hb
 refine ⟨⟨⟨A,c,gr_blk hg hb (fun q e=>by injection e with e; subst e; exact Ne.symm hq),hlb,?_⟩,hG,hl⟩,⟨hg.os,hg.tape,hg.output,hg.size,fun i hi hs=>hg.block i hi fun e=>?_⟩⟩
 ·refine ⟨ho.1,?_⟩
  rcases ho.2 with hv | ⟨q,cap,cur,hv,hgq,hh,r⟩
  ·exact .inl hv
  ·refine .inr ⟨q,cap,cur,hv,hgq,(hg.block q ?_ fun e=>?_).trans hh,r⟩
   ·rcases Nat.lt_or_ge q w.heap.size with h9 | h9
    ·exact h9
    ·rw [Array.getElem?_eq_none h9] at hh; cases hh
   ·injection e with e
    exact h0.not_own ho q (by rw [hv]; rfl) e
 ·injection e with e
  rcases hs with hs | hs
  ·omega
  ·exact hs.2 e
theorem step_gate_any {w:World} {ops:Array Oper} {o:Oper} {a:Act} {K:Act→World→Prop} {Q:Exit→Act→World→Prop} {E:Prop} (hgd:o.guard=none) (s x:Operand) (ho:o.op=.call { callee:=.builtin .append,args:=#[s,x],argTypes:=#[38,38] })
  {base n:Nat} {v:Value} {L:List Gt} (hs:a.eval s=v) (hown:w.ownsRow base TG 3 v n (ints (flatG L))) (hbase:base≤w.heap.size) {b off k:Nat} (g:Gt) (hx:a.eval x=.slice (some ⟨b,off,none⟩) 1 k)
  (hc:∀ j u,(ints (threeG g))[j]? = some u→w.cell? ⟨b,off + j,none⟩=some u) (hb:n + 1≤1000000)
  (h:∀ g' c' w',w'.ownsRow base TG 3 (.slice (some ⟨g',0,none⟩) (n + 1) c') (n + 1) (ints (flatG L) ++ ints (threeG g))→w.grownBy w' v.ownBlock→(v.ownBlock=some g'∨g'=w.heap.size)→K (a.put o.dst (.slice (some ⟨g',0,none⟩) (n + 1) c')) w') :
  if Region.wanted o (yielded ops a.tmps)=true then Oper.wp Tryz.prog o a w K Q else E:=by
 obtain ⟨i,hi,hz0,hz1,hz2⟩:=info_parts infoGt
 refine step_append_lies w hgd s x _ ho base _ i _ 3 24 Tryz.underlying38 hi hz0 hz1 hz2 rfl (by decide) _ n (ints (flatG L)) hs hown ⟨b,off,none⟩ 1 k (ints (threeG g)) hx (by simp [threeG,ints]) (cells_add hc) (ints_one _) Nat.one_pos (by unfold maxLen; omega) (by omega) hbase _ rfl ?_
 intro g' c' w' h1 h2 h3 _
 exact h g' c' w' h1 h2 h3
theorem wpList_put_g {w:World} {ops:Array Oper} {rest:List Oper} {o:Oper} {a:Act} {Q:Exit→Act→World→Prop} (hgd:o.guard=none) (m x v:Operand) (hop:o.op=Op.mapUpdate TK m x v) {b:Nat} {gs:List Gt} {g:Gt} (hm:a.eval m=.map (some b)) (hx:a.eval x=gv g) (hv:a.eval v=.int .i64 (gs.length:Int))
  (h:GMap w b gs) (hap:Apart gs) (hw:∀ g∈gs,wfG g) (hg:wfG g) (hf:¬ findG gs g < gs.length) (hK:∀ w',GMap w' b (gs ++ [g])→w.grownBy w' (some b)→wpList Tryz.prog ops Q rest (a.put o.dst undef) w'):wpList Tryz.prog ops Q (o :: rest) a w:=by
 refine wpList_plain hgd fun K' hK'=>?_
 obtain ⟨w',hrun,r1,r2⟩:=h.put hap hw hg hf
 unfold Oper.wp
 simp [execOp,hop,hm,hx,hv,hrun,Result.andThen]
 exact hK' _ _ (hK w' r1 r2)
theorem zeroIM (w:World):(zeroValue 3).run Tryz.prog w=.ok (.int .i64 0) w:=by kernel_rfl
set_option linter.unusedVariables false in
set_option maxRecDepth 100000 in
set_option maxHeartbeats 3200000 in
theorem iGateM {lo bp m:Nat} {gs:List Gt} (k a b:Int) (w:World) (h:SimpB w lo bp m gs) (hap:Apart gs) (hw:∀ g∈gs,wfG g) (hg:wfG ⟨k,a,b⟩) (hs:gs.length≤10000) :
  Calls Tryz.prog 170 #[.pointer (some ⟨bp,0,none⟩),.int .i64 k,.int .i64 a,.int .i64 b] w fun e w'=>e=.returned (.int .i64 (findG gs ⟨k,a,b⟩:Int))∧SimpB w' lo bp m (putG gs ⟨k,a,b⟩)∧StayM m lo w w':=by
 have HS:=hid h
 obtain ⟨A,c,hb,hl,ho⟩:=h.b
 have HO:=hid ho
 have HP:=hid (And.intro hap (And.intro hw hg))
 clear h ho hap hw hg
 by_cases hf:findG gs ⟨k,a,b⟩ < gs.length
 ·have HF:=hid hf
  clear hf
  go_enter Tryz.func170,Tryz.ntmps170
  have b_0:=(Below.refl w.heap.size w)
  have s_0:=b_0.size
  have x_0:=hb
  clear hb
  have x_lt:=x_0.lt
  have cell_x:=x_0.cell
  have froz_x:=x_0.frozen
  have lt_x:=x_0.lt
  go_upto_region 2 with fail
  refine wp_forget1 (w0:=w) (B:=w.heap.size) (b0:=w.heap.size) (t0:=96) (c0:=#[.int .i64 k,.int .i64 a,.int .i64 b]) ?_ ?_ ?_
  (focus exact blkcBy2)
  (focus (exact belBy))
  intro w1 q_1 hX1
  have sX1:=hX1.size
  have q_lt:=q_1.lt
  have b_1:=b_0.trans (hX1.mono (by omega))
  have x_1:=Blk.past hX1 x_0
  clear x_0 b_0 cell_x froz_x lt_x hX1
  have cell_x:=x_1.cell
  have froz_x:=x_1.frozen
  have lt_x:=x_1.lt
  have cell_q:=q_1.cell
  have froz_q:=q_1.frozen
  have lt_q:=q_1.lt
  have hk1:=HS.out.k.below b_1
  have HB:=hid (And.intro (HS.out.below b_1) b_1)
  clear x_1 q_1 b_1
  have hlk:∀ n,(Instr.lookup TK (.map (some m)) (.agg #[.int .i64 k,.int .i64 a,.int .i64 b]) true).run Tryz.prog (w1.drewN n)=.ok (.tuple #[.int .i64 (findG gs ⟨k,a,b⟩:Int),.bool true]) (w1.drewN n):=fun n=>(hk1.keep (w':=w1.drewN n) rfl).look_yes HP.out.1 HP.out.2.1 HP.out.2.2 HF.out
  clear hk1
  go_quiet (fail)
  clear hlk
  go_wp2
  go_returns
  have hbn:Below w1.heap.size w1 (w1.drewN nq):=below_drewN (Below.refl _ _)
  refine ⟨rfl,?_,StayM.of_below (HB.out.2.trans (hbn.mono HB.out.2.size))⟩
  rw [show putG gs ⟨k,a,b⟩=gs by unfold putG; rw [if_pos HF.out]]
  exact HB.out.1.below hbn
 ·have HF:=hid hf
  have hfl:=findG_len hf
  have HPUT:=hid (And.intro (show putG gs ⟨k,a,b⟩=gs ++ [⟨k,a,b⟩] by unfold putG; rw [if_neg hf]) hfl)
  clear hf hfl
  go_enter Tryz.func170,Tryz.ntmps170
  have b_0:=(Below.refl w.heap.size w)
  have s_0:=b_0.size
  have x_0:=hb
  clear hb
  have x_lt:=x_0.lt
  have cell_x:=x_0.cell
  have froz_x:=x_0.frozen
  have lt_x:=x_0.lt
  go_upto_region 2 with fail
  refine wp_forget1 (w0:=w) (B:=w.heap.size) (b0:=w.heap.size) (t0:=96) (c0:=#[.int .i64 k,.int .i64 a,.int .i64 b]) ?_ ?_ ?_
  (focus exact blkcBy2)
  (focus (exact belBy))
  intro w1 q_1 hX1
  have sX1:=hX1.size
  have q_lt:=q_1.lt
  have b_1:=b_0.trans (hX1.mono (by omega))
  have x_1:=Blk.past hX1 x_0
  clear x_0 b_0 cell_x froz_x lt_x hX1
  have cell_x:=x_1.cell
  have froz_x:=x_1.frozen
  have lt_x:=x_1.lt
  have cell_q:=q_1.cell
  have froz_q:=q_1.frozen
  have lt_q:=q_1.lt
  have hk1:=HS.out.k.below b_1
  have HB:=hid (And.intro (HS.out.below b_1) (And.intro b_1 (And.intro x_1 (And.intro q_1 (own_below HO.out b_1)))))
  have z1:=b_1.size
  clear x_1 q_1 b_1
  have hlk:∀ n,(Instr.lookup TK (.map (some m)) (.agg #[.int .i64 k,.int .i64 a,.int .i64 b]) true).run Tryz.prog (w1.drewN n)=.ok (.tuple #[.int .i64 0,.bool false]) (w1.drewN n):=fun n=>(hk1.keep (w':=w1.drewN n) rfl).look_no HP.out.1 HP.out.2.1 HP.out.2.2 HF.out (zeroIM _)
  clear hk1
  go_quiet (fail)
  clear hlk cell_x froz_x lt_x cell_q froz_q lt_q
  go_upto_region 5 with fail
  obtain ⟨w2,hw2⟩:∃ z,w1.drewN nq=z:=⟨_,rfl⟩
  have hbn:Below w1.heap.size w1 w2:=by rw [←hw2]; exact below_drewN (Below.refl _ _)
  rw [hw2]
  have hx2:=HB.out.2.2.1.past hbn
  have hq2:=HB.out.2.2.2.1.past hbn
  have ho2:=own_below HB.out.2.2.2.2 hbn
  have H2:=hid (And.intro (HB.out.1.k.below hbn) (HB.out.2.1.trans (hbn.mono z1)))
  have z2:=hbn.size
  have cell_x:=hx2.cell
  have froz_x:=hx2.frozen
  have lt_x:=hx2.lt
  have cell_q:=hq2.cell
  have lt_q:=hq2.lt
  have hne1:=hid (own_ne_obj ho2 hx2 (by decide))
  have HX2:=hid (And.intro hx2 (And.intro hq2 ho2))
  have hb1:gs.length + 1≤1000000:=by omega
  have hlw:lo≤w2.heap.size:=by omega
  clear hw2 hbn HB nq hq2
  go_region_law (refine step_gate_any (base:=lo) (L:=gs) rfl (.tmp 31) (.tmp 33) rfl (v:=Value.slice A gs.length c) rfl ?_ ?_ ⟨k,a,b⟩ rfl ?_ hb1 ?_; (focus (exact ownBy)); (focus (first | omega | (simp; omega))); (focus (exact top_cells _ [_,_,_] _)); intro g' c' w5 ho5 hg5 hl5; have kx5:=gr_blk hg5 (b:=bp) (t:=TM) (cs:=#[.slice A gs.length c,.map (some m)]) (by exact blkcBy2) hne1.out; have cell_5:=kx5.cell; have froz_5:=kx5.frozen; have lt_5:=kx5.lt)
  all_goals
   obtain ⟨B6,G6,S6,X6,Q6⟩:=simp_new (q:=w.heap.size) (by exact belBy) H2.out.1 HX2.out.1 hl HX2.out.2.2 HX2.out.2.1 (fun p hp=>by have:=(HO.out.lt p hp).2; omega) (by omega) ho5 hg5
   obtain ⟨w6,hw6⟩:∃ z,w5.setCell ⟨bp,0,none⟩ (Value.slice (some ⟨g',0,none⟩) (gs.length + 1) c')=z:=⟨_,rfl⟩
   rw [hw6] at B6 G6 S6 X6 Q6 ⊢
   have H6:=hid (And.intro B6 (And.intro G6 ((StayM.of_below H2.out.2).trans S6)))
   have z6:=S6.size
   clear hw6 ho5 hg5 hl5 kx5 cell_5 froz_5 lt_5 cell_x cell_q froz_x lt_x lt_q hne1 HX2 H2 B6 G6 S6 hx2 ho2
   have cell_x:=X6.cell
   have froz_x:=X6.frozen
   have lt_x:=X6.lt
   have cell_q:=Q6.cell
   have lt_q:=Q6.lt
   clear X6 Q6
   go_upto_region 6 with fail
   go_still_tail 11,(by kernel_rfl)
   have hw2:IntKind.i64.wrap (gs.length:Int)=(gs.length:Int):=IntWalk.i64_in _ (by omega)
   refine wpList_put_g (gs:=gs) (g:=⟨k,a,b⟩) rfl (.tmp 40) (.tmp 41) (.tmp 47) rfl rfl rfl ?_ (H6.out.2.1.keep rfl) HP.out.1 HP.out.2.1 HP.out.2.2 HF.out ?_
   ·exact congrArg (Value.int IntKind.i64) hw2
   intro w7 hG7 hg7
   obtain ⟨B7,S7⟩:=simp_map (w:={ w6 with drawn:=w6.drawn + 1 }) (Bld.heap H6.out.1 rfl) HS.out.lo (H6.out.2.1.keep rfl) hG7 hg7
   obtain ⟨A7,c7,hb7,_⟩:=B7.b
   have H7:=hid (And.intro B7 (H6.out.2.2.trans ((StayM.of_below (Below.drew (Below.refl w6.heap.size w6))).trans S7)))
   clear cell_x froz_x lt_x cell_q lt_q H6 hw2 B7 S7 hG7 hg7
   have cell_x:=hb7.cell
   have lt_x:=hb7.lt
   have hlg:(gs ++ [(⟨k,a,b⟩:Gt)]).length=gs.length + 1:=by simp
   rw [hlg] at cell_x
   clear hb7 hlg
   go_wp2
   go_returns
   rw [HPUT.out.1,HPUT.out.2]
   exact ⟨rfl,H7.out.1,H7.out.2⟩
open Go.RowKit
theorem wf_gateB {g:Gt} {n:Int} (h:gateB g n=true) (hn:n≤10000):wfG g:=by
 unfold gateB at h
 refine ⟨?_,?_⟩
 ·split at h
  ·omega
  ·split at h
   ·omega
   ·split at h
    ·omega
    ·split at h
     ·omega
     ·cases h
 ·split at h
  ·simp only [Bool.and_eq_true,inB_iff,beq_iff_eq] at h
   omega
  ·split at h
   ·simp only [Bool.and_eq_true,inB_iff,beq_iff_eq] at h
    omega
   ·split at h
    ·simp only [Bool.and_eq_true,inB_iff] at h
     omega
    ·split at h
     ·simp only [Bool.and_eq_true,inB_iff,beq_iff_eq] at h
      omega
     ·cases h
theorem wf_all {gs:List Gt} (h:gatesB 0 gs=true) (hs:gs.length≤10000):∀ g∈gs,wfG g:=fun g hm=>by
 obtain ⟨i,hi,rfl⟩:=List.getElem_of_mem hm
 exact wf_gateB (gatesB_at h (List.getElem?_eq_getElem hi)) (by omega)
structure SimG (gs:List Gt):Prop where
 len:gs.length≤10000
 ok:gatesB 0 gs=true
 ap:Apart gs
theorem gate2_ok {x n:Int} (h:0≤x∧x≤1):gateB ⟨2,x,0⟩ n=true:=by
 have e:gateB ⟨2,x,0⟩ n=(inB x 0 1 && (0:Int) == 0):=by
  unfold gateB
  rw [if_neg (show ¬ ((2:Int)=1) by decide),if_pos rfl]
 rw [e,Bool.and_eq_true,inB_iff]
 exact ⟨h,rfl⟩
theorem gate5_ok {x n:Int} (h:0≤x∧x≤n - 1):gateB ⟨5,x,0⟩ n=true:=by
 have e:gateB ⟨5,x,0⟩ n=(inB x 0 (n - 1) && (0:Int) == 0):=by
  unfold gateB
  rw [if_neg (show ¬ ((5:Int)=1) by decide),if_neg (show ¬ ((5:Int)=2) by decide),if_neg (show ¬ ((5:Int)=3∨(5:Int)=4) by decide),if_pos rfl]
 rw [e,Bool.and_eq_true,inB_iff]
 exact ⟨h,rfl⟩
theorem gate34_ok {k x y n:Int} (hk:k=3∨k=4) (h:0≤x∧x≤n - 1) (h':0≤y∧y≤n - 1):gateB ⟨k,x,y⟩ n=true:=by
 have e:gateB ⟨k,x,y⟩ n=(inB x 0 (n - 1) && inB y 0 (n - 1)):=by
  unfold gateB
  rw [if_neg (show ¬ (k=1) by omega),if_neg (show ¬ (k=2) by omega),if_pos hk]
 rw [e,Bool.and_eq_true,inB_iff,inB_iff]
 exact ⟨h,h'⟩
theorem iGateN {lo bp m:Nat} {gs:List Gt} (k a b:Int) (w:World) (h:SimpB w lo bp m gs) (hg:SimG gs) (hn:gateB ⟨k,a,b⟩ gs.length=true) :
  Calls Tryz.prog 170 #[.pointer (some ⟨bp,0,none⟩),.int .i64 k,.int .i64 a,.int .i64 b] w fun e w'=>e=.returned (.int .i64 (findG gs ⟨k,a,b⟩:Int))∧SimpB w' lo bp m (putG gs ⟨k,a,b⟩)∧StayM m lo w w' :=
 iGateM k a b w h hg.ap (wf_all hg.ok hg.len) (wf_gateB hn (by have:=hg.len; omega)) hg.len
set_option linter.unusedVariables false in
set_option maxRecDepth 100000 in
set_option maxHeartbeats 3200000 in
theorem iConstant {lo bp m:Nat} {gs:List Gt} (a:Nat) (w:World) (h:SimpB w lo bp m gs) (hg:SimG gs) (ha:a < gs.length) :
  Calls Tryz.prog 190 #[.pointer (some ⟨bp,0,none⟩),.int .i64 (a:Int)] w fun e w'=>e=.returned (.int .i64 (valG gs (a:Int)))∧w=w':=by
 obtain ⟨A,c,hb,hl,ho⟩:=h.b
 have hs:=hg.len
 obtain ⟨⟨k,x,y⟩,hg⟩:∃ s,gs[a]? = some s:=⟨_,List.getElem?_eq_getElem ha⟩
 obtain ⟨bg,og,rfl,hB,d0,d1,d2⟩:=gt_cells (Cells.of_own ho) (Below.refl _ _) hg
 have eg:gtAt gs (a:Int)=⟨k,x,y⟩:=by unfold gtAt; rw [Int.toNat_natCast,List.getD_eq_getElem?_getD,hg]; rfl
 have ha':(a:Int) < (gs.length:Int):=by omega
 have cell_x:=hb.cell
 have lt_x:=hb.lt
 clear ho hb hg h
 by_cases h2:k=2
 ·subst h2
  have HV:=hid (show valG gs (a:Int)=x by unfold valG; rw [eg]; rfl)
  clear eg
  go_enter Tryz.func190,Tryz.ntmps190
  go_wp2
  go_ret
  exact ⟨by rw [HV.out]; rfl,rfl⟩
 ·have k2:(k == 2)=false:=by simpa using h2
  have HV:=hid (show valG gs (a:Int) = -1 by unfold valG; rw [eg,if_neg h2])
  clear eg h2
  go_enter Tryz.func190,Tryz.ntmps190
  go_wp2
  go_ret
  exact ⟨by rw [HV.out]; rfl,rfl⟩
set_option linter.unusedVariables false in
set_option maxRecDepth 100000 in
set_option maxHeartbeats 3200000 in
theorem iNegation {lo bp m:Nat} {gs:List Gt} (a:Nat) (w:World) (h:SimpB w lo bp m gs) (hsg:SimG gs) (ha:a < gs.length) :
  Calls Tryz.prog 169 #[.pointer (some ⟨bp,0,none⟩),.int .i64 (a:Int)] w fun e w'=>e=.returned (.int .i64 (negG gs (a:Int)).2)∧SimpB w' lo bp m (negG gs (a:Int)).1∧StayM m lo w w':=by
 have HB:=hid h
 have HS:=hid hsg
 have hs:=hsg.len
 have hwa:wireB gs.length (a:Int)=true:=wire_at ha
 have hgo:=gt_ok hsg.ok hwa
 obtain ⟨A,c,hb,hl,ho⟩:=h.b
 obtain ⟨⟨k,x,y⟩,hg⟩:∃ s,gs[a]? = some s:=⟨_,List.getElem?_eq_getElem ha⟩
 obtain ⟨bg,og,rfl,hB,d0,d1,d2⟩:=gt_cells (Cells.of_own ho) (Below.refl _ _) hg
 have eg:gtAt gs (a:Int)=⟨k,x,y⟩:=by unfold gtAt; rw [Int.toNat_natCast,List.getD_eq_getElem?_getD,hg]; rfl
 have ha':(a:Int) < (gs.length:Int):=by omega
 have cell_x:=hb.cell
 have lt_x:=hb.lt
 rw [eg] at hgo
 clear ho hb hg hwa h hsg
 by_cases h2:k=2
 ·subst h2
  have hx:=gate_is2 hgo rfl
  have HV:=hid (show negG gs (a:Int)=put2 gs ⟨2,1 - x,0⟩ by unfold negG; rw [eg,if_pos rfl])
  have hw1:IntKind.i64.wrap (1 - x)=1 - x:=IntWalk.i64_in _ (by dsimp only at hx; omega)
  have HN:=hid (gate2_ok (x:=1 - x) (n:=(gs.length:Int)) (by dsimp only at hx; omega))
  clear eg hgo hx
  go_enter Tryz.func169,Tryz.ntmps169
  go_wp2_with fail
  refine Calls.mono (iGateN 2 (1 - x) 0 _ HB.out HS.out HN.out) ?_
  rintro e w5 ⟨rfl,h5,t5⟩
  have HF:=hid (And.intro h5 t5)
  clear h5 t5
  go_wp2
  go_returns
  rw [HV.out]
  exact ⟨rfl,HF.out.1,HF.out.2⟩
 ·have k2:(k == 2)=false:=by simpa using h2
  by_cases h5:k=5
  ·subst h5
   have HV:=hid (show negG gs (a:Int)=(gs,x) by unfold negG; rw [eg,if_neg h2,if_pos rfl])
   clear eg h2 hgo
   go_enter Tryz.func169,Tryz.ntmps169
   go_wp2
   go_returns
   rw [HV.out]
   exact ⟨rfl,HB.out,StayM.refl _ _ _⟩
  ·have k5:(k == 5)=false:=by simpa using h5
   have HV:=hid (show negG gs (a:Int)=put2 gs ⟨5,(a:Int),0⟩ by unfold negG; rw [eg,if_neg h2,if_neg h5])
   have HN:=hid (gate5_ok (x:=(a:Int)) (n:=(gs.length:Int)) (by omega))
   clear eg h2 h5 hgo
   go_enter Tryz.func169,Tryz.ntmps169
   go_wp2_with fail
   refine Calls.mono (iGateN 5 (a:Int) 0 _ HB.out HS.out HN.out) ?_
   rintro e w5 ⟨rfl,h5,t5⟩
   have HF:=hid (And.intro h5 t5)
   clear h5 t5
   go_wp2
   go_returns
   rw [HV.out]
   exact ⟨rfl,HF.out.1,HF.out.2⟩
open Go.RowKit
set_option linter.unusedVariables false in
set_option maxRecDepth 100000 in
set_option maxHeartbeats 3200000 in
theorem iBinary3 {lo bp m:Nat} {gs:List Gt} (a b:Nat) (w:World) (h:SimpB w lo bp m gs) (hsg:SimG gs) (ha:a < gs.length) (hb:b < gs.length) :
  Calls Tryz.prog 168 #[.pointer (some ⟨bp,0,none⟩),.int .i64 3,.int .i64 (a:Int),.int .i64 (b:Int)] w fun e w'=>e=.returned (.int .i64 (binG gs 3 (a:Int) (b:Int)).2)∧SimpB w' lo bp m (binG gs 3 (a:Int) (b:Int)).1∧StayM m lo w w':=by
 have HB:=hid h
 have HS:=hid hsg
 have HZ:=hid (gate2_ok (x:=0) (n:=(gs.length:Int)) (by omega))
 have HM:=hid (gate34_ok (k:=3) (x:=min (a:Int) (b:Int)) (y:=max (a:Int) (b:Int)) (n:=(gs.length:Int)) (by omega) (by omega) (by omega))
 clear h hsg
 by_cases hab:a=b
 ·subst hab
  have HV:=hid (show binG gs 3 (a:Int) (a:Int)=put2 gs ⟨2,0,0⟩ by unfold binG; rw [if_pos rfl]; rfl)
  go_enter Tryz.func168,Tryz.ntmps168
  have HW:=hid (And.intro HB.out (StayM.refl m lo w))
  go_wp2_with fail
  refine Calls.mono (iGateN 2 0 0 _ HW.out.1 HS.out HZ.out) ?_
  rintro e w5 ⟨rfl,h5,t5⟩
  have HF:=hid (And.intro h5 (HW.out.2.trans t5))
  clear h5 t5
  go_wp2
  go_returns
  rw [HV.out]
  exact ⟨rfl,HF.out.1,HF.out.2⟩
 ·have hne:((a:Int) == (b:Int))=false:=by rw [beq_eq_false_iff_ne]; omega
  have hneN:(a == b)=false:=by simpa using hab
  have hne2:¬ ((a:Int)=(b:Int)):=by omega
  have HQa:=hid (fun w h=>iConstant (lo:=lo) (bp:=bp) (m:=m) (gs:=gs) a w h HS.out ha)
  have HQb:=hid (fun w h=>iConstant (lo:=lo) (bp:=bp) (m:=m) (gs:=gs) b w h HS.out hb)
  obtain ⟨va,hva⟩:∃ v,valG gs (a:Int)=v:=⟨_,rfl⟩
  obtain ⟨vb,hvb⟩:∃ v,valG gs (b:Int)=v:=⟨_,rfl⟩
  rw [hva] at HQa
  rw [hvb] at HQb
  have hbin:=show binG gs 3 (a:Int) (b:Int)=halfG gs 3 (a:Int) (b:Int) (halfG gs 3 (b:Int) (a:Int) (put2 gs ⟨3,min (a:Int) (b:Int),max (a:Int) (b:Int)⟩)) by unfold binG; rw [if_neg hne2]
  unfold halfG at hbin
  rw [hva,hvb] at hbin
  clear hva hvb hab hne2
  by_cases a0:va=0
  ·subst a0
   have HV:=hid (show binG gs 3 (a:Int) (b:Int)=(gs,(b:Int)) by rw [hbin,if_pos (.inl ⟨rfl,rfl⟩)])
   clear hbin
   go_enter Tryz.func168,Tryz.ntmps168
   have b_0:=(Below.refl w.heap.size w)
   have s_0:=b_0.size
   go_upto_region 6 with fail
   refine wp_forget1 (w0:=w) (B:=w.heap.size) (b0:=w.heap.size) (t0:=175) (c0:=#[.int .i64 (a:Int),.int .i64 (b:Int),.int .i64 (b:Int),.int .i64 (a:Int)]) ?_ ?_ ?_
   (focus exact blkcBy)
   (focus (exact belBy))
   intro w1 r_1 hX1
   have sX1:=hX1.size
   have r_lt:=r_1.lt
   have b_1:=b_0.trans (hX1.mono (by omega))
   clear b_0 hX1
   have cell_r:=r_1.cell
   have froz_r:=r_1.frozen
   have lt_r:=r_1.lt
   have HB1:=hid (And.intro (HB.out.below b_1) (And.intro b_1 r_1))
   have z1:=b_1.size
   clear r_1 b_1 cell_r froz_r lt_r
   go_loopw [10,11,28,36,53,60] (fun _ _ i _ _ _ wr=>∃ j:Nat,i=.int .i64 (j:Int)∧j≤0∧Below w1.heap.size w1 wr) (fun _ _ i _ _ _ _=>2 - (intOf i).toNat)
   case atStart=>exact ⟨0,rfl,by omega,Below.refl _ _⟩
   obtain ⟨j,rfl,hj,hbr⟩:=hrel
   have hrr:=HB1.out.2.2.past hbr
   have zr:=hbr.size
   have cell_r:=hrr.cell
   have lt_r:=hrr.lt
   clear hrr
   obtain rfl:j=0:=by omega
   have b_30:=(Below.refl wr.heap.size wr)
   have s_30:=b_30.size
   go_upto_region 8 with fail
   refine wp_forget1 (w0:=wr) (B:=wr.heap.size) (b0:=wr.heap.size) (t0:=175) (c0:=#[.int .i64 (a:Int),.int .i64 (b:Int)]) ?_ ?_ ?_
   (focus exact blkcBy)
   (focus (exact belBy))
   intro w31 q_31 hX31
   have sX31:=hX31.size
   have q_lt:=q_31.lt
   have b_31:=b_30.trans (hX31.mono (by omega))
   clear b_30 hX31
   have cell_q:=q_31.cell
   have froz_q:=q_31.frozen
   have lt_q:=q_31.lt
   have hbz:=hbr.trans (b_31.mono zr)
   have HW:=hid (And.intro (HB1.out.1.below (hbz.mono (by omega))) (StayM.of_below (m:=m) (lo:=lo) (HB1.out.2.1.trans (hbz.mono z1))))
   have HBZ:=hid hbz
   clear hbz b_31 q_31
   go_wp2_with fail
   refine Calls.mono (HQa.out _ HW.out.1) ?_
   rintro e w' ⟨rfl,rfl⟩
   go_wp2
   go_returns
   rw [HV.out]
   exact ⟨rfl,HW.out.1,HW.out.2⟩
  have a0':(va == 0)=false:=by simpa using a0
  by_cases a1:va=1
  ·subst a1
   have HV:=hid (show binG gs 3 (a:Int) (b:Int)=negG gs (b:Int) by rw [hbin,if_neg (by omega),if_pos rfl])
   clear hbin
   go_enter Tryz.func168,Tryz.ntmps168
   have b_0:=(Below.refl w.heap.size w)
   have s_0:=b_0.size
   go_upto_region 6 with fail
   refine wp_forget1 (w0:=w) (B:=w.heap.size) (b0:=w.heap.size) (t0:=175) (c0:=#[.int .i64 (a:Int),.int .i64 (b:Int),.int .i64 (b:Int),.int .i64 (a:Int)]) ?_ ?_ ?_
   (focus exact blkcBy)
   (focus (exact belBy))
   intro w1 r_1 hX1
   have sX1:=hX1.size
   have r_lt:=r_1.lt
   have b_1:=b_0.trans (hX1.mono (by omega))
   clear b_0 hX1
   have cell_r:=r_1.cell
   have froz_r:=r_1.frozen
   have lt_r:=r_1.lt
   have HB1:=hid (And.intro (HB.out.below b_1) (And.intro b_1 r_1))
   have z1:=b_1.size
   clear r_1 b_1 cell_r froz_r lt_r
   go_loopw [10,11,28,36,53,60] (fun _ _ i _ _ _ wr=>∃ j:Nat,i=.int .i64 (j:Int)∧j≤0∧Below w1.heap.size w1 wr) (fun _ _ i _ _ _ _=>2 - (intOf i).toNat)
   case atStart=>exact ⟨0,rfl,by omega,Below.refl _ _⟩
   obtain ⟨j,rfl,hj,hbr⟩:=hrel
   have hrr:=HB1.out.2.2.past hbr
   have zr:=hbr.size
   have cell_r:=hrr.cell
   have lt_r:=hrr.lt
   clear hrr
   obtain rfl:j=0:=by omega
   have b_30:=(Below.refl wr.heap.size wr)
   have s_30:=b_30.size
   go_upto_region 8 with fail
   refine wp_forget1 (w0:=wr) (B:=wr.heap.size) (b0:=wr.heap.size) (t0:=175) (c0:=#[.int .i64 (a:Int),.int .i64 (b:Int)]) ?_ ?_ ?_
   (focus exact blkcBy)
   (focus (exact belBy))
   intro w31 q_31 hX31
   have sX31:=hX31.size
   have q_lt:=q_31.lt
   have b_31:=b_30.trans (hX31.mono (by omega))
   clear b_30 hX31
   have cell_q:=q_31.cell
   have froz_q:=q_31.frozen
   have lt_q:=q_31.lt
   have hbz:=hbr.trans (b_31.mono zr)
   have HW:=hid (And.intro (HB1.out.1.below (hbz.mono (by omega))) (StayM.of_below (m:=m) (lo:=lo) (HB1.out.2.1.trans (hbz.mono z1))))
   have HBZ:=hid hbz
   clear hbz b_31 q_31
   go_wp2_with fail
   refine Calls.mono (HQa.out _ HW.out.1) ?_
   rintro e w' ⟨rfl,rfl⟩
   go_wp2_with fail
   refine Calls.mono (iNegation b _ HW.out.1 HS.out hb) ?_
   rintro e w5 ⟨rfl,h5,t5⟩
   have HF:=hid (And.intro h5 (HW.out.2.trans t5))
   clear h5 t5
   go_wp2
   go_returns
   rw [HV.out]
   exact ⟨rfl,HF.out.1,HF.out.2⟩
  have a1':(va == 1)=false:=by simpa using a1
  by_cases b0:vb=0
  ·subst b0
   have HV:=hid (show binG gs 3 (a:Int) (b:Int)=(gs,(a:Int)) by rw [hbin,if_neg (by omega),if_neg (by omega),if_neg (by omega),if_pos (.inl ⟨rfl,rfl⟩)])
   clear hbin
   go_enter Tryz.func168,Tryz.ntmps168
   have b_0:=(Below.refl w.heap.size w)
   have s_0:=b_0.size
   go_upto_region 6 with fail
   refine wp_forget1 (w0:=w) (B:=w.heap.size) (b0:=w.heap.size) (t0:=175) (c0:=#[.int .i64 (a:Int),.int .i64 (b:Int),.int .i64 (b:Int),.int .i64 (a:Int)]) ?_ ?_ ?_
   (focus exact blkcBy)
   (focus (exact belBy))
   intro w1 r_1 hX1
   have sX1:=hX1.size
   have r_lt:=r_1.lt
   have b_1:=b_0.trans (hX1.mono (by omega))
   clear b_0 hX1
   have cell_r:=r_1.cell
   have froz_r:=r_1.frozen
   have lt_r:=r_1.lt
   have HB1:=hid (And.intro (HB.out.below b_1) (And.intro b_1 r_1))
   have z1:=b_1.size
   clear r_1 b_1 cell_r froz_r lt_r
   go_loopw [10,11,28,36,53,60] (fun _ _ i _ _ _ wr=>∃ j:Nat,i=.int .i64 (j:Int)∧j≤1∧Below w1.heap.size w1 wr) (fun _ _ i _ _ _ _=>2 - (intOf i).toNat)
   case atStart=>exact ⟨0,rfl,by omega,Below.refl _ _⟩
   obtain ⟨j,rfl,hj,hbr⟩:=hrel
   have hrr:=HB1.out.2.2.past hbr
   have zr:=hbr.size
   have cell_r:=hrr.cell
   have lt_r:=hrr.lt
   clear hrr
   rcases (show j=0∨j=1 by omega) with rfl | rfl
   ·skip
    have b_30:=(Below.refl wr.heap.size wr)
    have s_30:=b_30.size
    go_upto_region 8 with fail
    refine wp_forget1 (w0:=wr) (B:=wr.heap.size) (b0:=wr.heap.size) (t0:=175) (c0:=#[.int .i64 (a:Int),.int .i64 (b:Int)]) ?_ ?_ ?_
    (focus exact blkcBy)
    (focus (exact belBy))
    intro w31 q_31 hX31
    have sX31:=hX31.size
    have q_lt:=q_31.lt
    have b_31:=b_30.trans (hX31.mono (by omega))
    clear b_30 hX31
    have cell_q:=q_31.cell
    have froz_q:=q_31.frozen
    have lt_q:=q_31.lt
    have hbz:=hbr.trans (b_31.mono zr)
    have HW:=hid (And.intro (HB1.out.1.below (hbz.mono (by omega))) (StayM.of_below (m:=m) (lo:=lo) (HB1.out.2.1.trans (hbz.mono z1))))
    have HBZ:=hid hbz
    clear hbz b_31 q_31
    go_wp2_with fail
    refine Calls.mono (HQa.out _ HW.out.1) ?_
    rintro e w' ⟨rfl,rfl⟩
    go_wp2
    go_roundw
    case rel=>exact ⟨1,rfl,by omega,HBZ.out⟩
    case measure=>simp [intOf]
   ·skip
    have b_30:=(Below.refl wr.heap.size wr)
    have s_30:=b_30.size
    go_upto_region 8 with fail
    refine wp_forget1 (w0:=wr) (B:=wr.heap.size) (b0:=wr.heap.size) (t0:=175) (c0:=#[.int .i64 (b:Int),.int .i64 (a:Int)]) ?_ ?_ ?_
    (focus exact blkcBy)
    (focus (exact belBy))
    intro w31 q_31 hX31
    have sX31:=hX31.size
    have q_lt:=q_31.lt
    have b_31:=b_30.trans (hX31.mono (by omega))
    clear b_30 hX31
    have cell_q:=q_31.cell
    have froz_q:=q_31.frozen
    have lt_q:=q_31.lt
    have hbz:=hbr.trans (b_31.mono zr)
    have HW:=hid (And.intro (HB1.out.1.below (hbz.mono (by omega))) (StayM.of_below (m:=m) (lo:=lo) (HB1.out.2.1.trans (hbz.mono z1))))
    have HBZ:=hid hbz
    clear hbz b_31 q_31
    go_wp2_with fail
    refine Calls.mono (HQb.out _ HW.out.1) ?_
    rintro e w' ⟨rfl,rfl⟩
    go_wp2
    go_returns
    rw [HV.out]
    exact ⟨rfl,HW.out.1,HW.out.2⟩
  have b0':(vb == 0)=false:=by simpa using b0
  by_cases b1:vb=1
  ·subst b1
   have HV:=hid (show binG gs 3 (a:Int) (b:Int)=negG gs (a:Int) by rw [hbin,if_neg (by omega),if_neg (by omega),if_neg (by omega),if_neg (by omega),if_pos rfl])
   clear hbin
   go_enter Tryz.func168,Tryz.ntmps168
   have b_0:=(Below.refl w.heap.size w)
   have s_0:=b_0.size
   go_upto_region 6 with fail
   refine wp_forget1 (w0:=w) (B:=w.heap.size) (b0:=w.heap.size) (t0:=175) (c0:=#[.int .i64 (a:Int),.int .i64 (b:Int),.int .i64 (b:Int),.int .i64 (a:Int)]) ?_ ?_ ?_
   (focus exact blkcBy)
   (focus (exact belBy))
   intro w1 r_1 hX1
   have sX1:=hX1.size
   have r_lt:=r_1.lt
   have b_1:=b_0.trans (hX1.mono (by omega))
   clear b_0 hX1
   have cell_r:=r_1.cell
   have froz_r:=r_1.frozen
   have lt_r:=r_1.lt
   have HB1:=hid (And.intro (HB.out.below b_1) (And.intro b_1 r_1))
   have z1:=b_1.size
   clear r_1 b_1 cell_r froz_r lt_r
   go_loopw [10,11,28,36,53,60] (fun _ _ i _ _ _ wr=>∃ j:Nat,i=.int .i64 (j:Int)∧j≤1∧Below w1.heap.size w1 wr) (fun _ _ i _ _ _ _=>2 - (intOf i).toNat)
   case atStart=>exact ⟨0,rfl,by omega,Below.refl _ _⟩
   obtain ⟨j,rfl,hj,hbr⟩:=hrel
   have hrr:=HB1.out.2.2.past hbr
   have zr:=hbr.size
   have cell_r:=hrr.cell
   have lt_r:=hrr.lt
   clear hrr
   rcases (show j=0∨j=1 by omega) with rfl | rfl
   ·skip
    have b_30:=(Below.refl wr.heap.size wr)
    have s_30:=b_30.size
    go_upto_region 8 with fail
    refine wp_forget1 (w0:=wr) (B:=wr.heap.size) (b0:=wr.heap.size) (t0:=175) (c0:=#[.int .i64 (a:Int),.int .i64 (b:Int)]) ?_ ?_ ?_
    (focus exact blkcBy)
    (focus (exact belBy))
    intro w31 q_31 hX31
    have sX31:=hX31.size
    have q_lt:=q_31.lt
    have b_31:=b_30.trans (hX31.mono (by omega))
    clear b_30 hX31
    have cell_q:=q_31.cell
    have froz_q:=q_31.frozen
    have lt_q:=q_31.lt
    have hbz:=hbr.trans (b_31.mono zr)
    have HW:=hid (And.intro (HB1.out.1.below (hbz.mono (by omega))) (StayM.of_below (m:=m) (lo:=lo) (HB1.out.2.1.trans (hbz.mono z1))))
    have HBZ:=hid hbz
    clear hbz b_31 q_31
    go_wp2_with fail
    refine Calls.mono (HQa.out _ HW.out.1) ?_
    rintro e w' ⟨rfl,rfl⟩
    go_wp2
    go_roundw
    case rel=>exact ⟨1,rfl,by omega,HBZ.out⟩
    case measure=>simp [intOf]
   ·skip
    have b_30:=(Below.refl wr.heap.size wr)
    have s_30:=b_30.size
    go_upto_region 8 with fail
    refine wp_forget1 (w0:=wr) (B:=wr.heap.size) (b0:=wr.heap.size) (t0:=175) (c0:=#[.int .i64 (b:Int),.int .i64 (a:Int)]) ?_ ?_ ?_
    (focus exact blkcBy)
    (focus (exact belBy))
    intro w31 q_31 hX31
    have sX31:=hX31.size
    have q_lt:=q_31.lt
    have b_31:=b_30.trans (hX31.mono (by omega))
    clear b_30 hX31
    have cell_q:=q_31.cell
    have froz_q:=q_31.frozen
    have lt_q:=q_31.lt
    have hbz:=hbr.trans (b_31.mono zr)
    have HW:=hid (And.intro (HB1.out.1.below (hbz.mono (by omega))) (StayM.of_below (m:=m) (lo:=lo) (HB1.out.2.1.trans (hbz.mono z1))))
    have HBZ:=hid hbz
    clear hbz b_31 q_31
    go_wp2_with fail
    refine Calls.mono (HQb.out _ HW.out.1) ?_
    rintro e w' ⟨rfl,rfl⟩
    go_wp2_with fail
    refine Calls.mono (iNegation a _ HW.out.1 HS.out ha) ?_
    rintro e w5 ⟨rfl,h5,t5⟩
    have HF:=hid (And.intro h5 (HW.out.2.trans t5))
    clear h5 t5
    go_wp2
    go_returns
    rw [HV.out]
    exact ⟨rfl,HF.out.1,HF.out.2⟩
  have b1':(vb == 1)=false:=by simpa using b1
  by_cases hlt:b < a
  ·have hl1:(b:Int) < (a:Int):=by have hab3:a≠b:=(by simpa using hneN); omega
   rw [show min (a:Int) (b:Int)=(b:Int) by omega,show max (a:Int) (b:Int)=(a:Int) by omega] at HM hbin
   clear hlt
   have HV:=hid (show binG gs 3 (a:Int) (b:Int)=put2 gs ⟨3,(b:Int),(a:Int)⟩ by rw [hbin,if_neg (by omega),if_neg (by omega),if_neg (by omega),if_neg (by omega),if_neg (by omega),if_neg (by omega)])
   clear hbin
   go_enter Tryz.func168,Tryz.ntmps168
   have b_0:=(Below.refl w.heap.size w)
   have s_0:=b_0.size
   go_upto_region 6 with fail
   refine wp_forget1 (w0:=w) (B:=w.heap.size) (b0:=w.heap.size) (t0:=175) (c0:=#[.int .i64 (a:Int),.int .i64 (b:Int),.int .i64 (b:Int),.int .i64 (a:Int)]) ?_ ?_ ?_
   (focus exact blkcBy)
   (focus (exact belBy))
   intro w1 r_1 hX1
   have sX1:=hX1.size
   have r_lt:=r_1.lt
   have b_1:=b_0.trans (hX1.mono (by omega))
   clear b_0 hX1
   have cell_r:=r_1.cell
   have froz_r:=r_1.frozen
   have lt_r:=r_1.lt
   have HB1:=hid (And.intro (HB.out.below b_1) (And.intro b_1 r_1))
   have z1:=b_1.size
   clear r_1 b_1 cell_r froz_r lt_r
   go_loopw [10,11,28,36,53,60] (fun _ _ i _ _ _ wr=>∃ j:Nat,i=.int .i64 (j:Int)∧j≤2∧Below w1.heap.size w1 wr) (fun _ _ i _ _ _ _=>2 - (intOf i).toNat)
   case atStart=>exact ⟨0,rfl,by omega,Below.refl _ _⟩
   obtain ⟨j,rfl,hj,hbr⟩:=hrel
   have hrr:=HB1.out.2.2.past hbr
   have zr:=hbr.size
   have cell_r:=hrr.cell
   have lt_r:=hrr.lt
   clear hrr
   rcases (show j=0∨j=1∨j=2 by omega) with rfl | rfl | rfl
   ·skip
    have b_30:=(Below.refl wr.heap.size wr)
    have s_30:=b_30.size
    go_upto_region 8 with fail
    refine wp_forget1 (w0:=wr) (B:=wr.heap.size) (b0:=wr.heap.size) (t0:=175) (c0:=#[.int .i64 (a:Int),.int .i64 (b:Int)]) ?_ ?_ ?_
    (focus exact blkcBy)
    (focus (exact belBy))
    intro w31 q_31 hX31
    have sX31:=hX31.size
    have q_lt:=q_31.lt
    have b_31:=b_30.trans (hX31.mono (by omega))
    clear b_30 hX31
    have cell_q:=q_31.cell
    have froz_q:=q_31.frozen
    have lt_q:=q_31.lt
    have hbz:=hbr.trans (b_31.mono zr)
    have HW:=hid (And.intro (HB1.out.1.below (hbz.mono (by omega))) (StayM.of_below (m:=m) (lo:=lo) (HB1.out.2.1.trans (hbz.mono z1))))
    have HBZ:=hid hbz
    clear hbz b_31 q_31
    go_wp2_with fail
    refine Calls.mono (HQa.out _ HW.out.1) ?_
    rintro e w' ⟨rfl,rfl⟩
    go_wp2
    go_roundw
    case rel=>exact ⟨1,rfl,by omega,HBZ.out⟩
    case measure=>simp [intOf]
   ·skip
    have b_30:=(Below.refl wr.heap.size wr)
    have s_30:=b_30.size
    go_upto_region 8 with fail
    refine wp_forget1 (w0:=wr) (B:=wr.heap.size) (b0:=wr.heap.size) (t0:=175) (c0:=#[.int .i64 (b:Int),.int .i64 (a:Int)]) ?_ ?_ ?_
    (focus exact blkcBy)
    (focus (exact belBy))
    intro w31 q_31 hX31
    have sX31:=hX31.size
    have q_lt:=q_31.lt
    have b_31:=b_30.trans (hX31.mono (by omega))
    clear b_30 hX31
    have cell_q:=q_31.cell
    have froz_q:=q_31.frozen
    have lt_q:=q_31.lt
    have hbz:=hbr.trans (b_31.mono zr)
    have HW:=hid (And.intro (HB1.out.1.below (hbz.mono (by omega))) (StayM.of_below (m:=m) (lo:=lo) (HB1.out.2.1.trans (hbz.mono z1))))
    have HBZ:=hid hbz
    clear hbz b_31 q_31
    go_wp2_with fail
    refine Calls.mono (HQb.out _ HW.out.1) ?_
    rintro e w' ⟨rfl,rfl⟩
    go_wp2
    go_roundw
    case rel=>exact ⟨2,rfl,by omega,HBZ.out⟩
    case measure=>simp [intOf]
   ·have HW:=hid (And.intro (HB1.out.1.below (hbr.mono (by omega))) (StayM.of_below (m:=m) (lo:=lo) (HB1.out.2.1.trans (hbr.mono z1))))
    clear hbr
    go_wp2_with fail
    refine Calls.mono (iGateN 3 _ _ _ HW.out.1 HS.out HM.out) ?_
    rintro e w5 ⟨rfl,h5,t5⟩
    have HF:=hid (And.intro h5 (HW.out.2.trans t5))
    clear h5 t5
    go_wp2
    go_returns
    rw [HV.out]
    exact ⟨rfl,HF.out.1,HF.out.2⟩
  ·have hl1:(a:Int) < (b:Int):=by have hab3:a≠b:=(by simpa using hneN); omega
   have hl2:¬ ((b:Int) < (a:Int)):=by omega
   rw [show min (a:Int) (b:Int)=(a:Int) by omega,show max (a:Int) (b:Int)=(b:Int) by omega] at HM hbin
   clear hlt
   have HV:=hid (show binG gs 3 (a:Int) (b:Int)=put2 gs ⟨3,(a:Int),(b:Int)⟩ by rw [hbin,if_neg (by omega),if_neg (by omega),if_neg (by omega),if_neg (by omega),if_neg (by omega),if_neg (by omega)])
   clear hbin
   go_enter Tryz.func168,Tryz.ntmps168
   have b_0:=(Below.refl w.heap.size w)
   have s_0:=b_0.size
   go_upto_region 6 with fail
   refine wp_forget1 (w0:=w) (B:=w.heap.size) (b0:=w.heap.size) (t0:=175) (c0:=#[.int .i64 (a:Int),.int .i64 (b:Int),.int .i64 (b:Int),.int .i64 (a:Int)]) ?_ ?_ ?_
   (focus exact blkcBy)
   (focus (exact belBy))
   intro w1 r_1 hX1
   have sX1:=hX1.size
   have r_lt:=r_1.lt
   have b_1:=b_0.trans (hX1.mono (by omega))
   clear b_0 hX1
   have cell_r:=r_1.cell
   have froz_r:=r_1.frozen
   have lt_r:=r_1.lt
   have HB1:=hid (And.intro (HB.out.below b_1) (And.intro b_1 r_1))
   have z1:=b_1.size
   clear r_1 b_1 cell_r froz_r lt_r
   go_loopw [10,11,28,36,53,60] (fun _ _ i _ _ _ wr=>∃ j:Nat,i=.int .i64 (j:Int)∧j≤2∧Below w1.heap.size w1 wr) (fun _ _ i _ _ _ _=>2 - (intOf i).toNat)
   case atStart=>exact ⟨0,rfl,by omega,Below.refl _ _⟩
   obtain ⟨j,rfl,hj,hbr⟩:=hrel
   have hrr:=HB1.out.2.2.past hbr
   have zr:=hbr.size
   have cell_r:=hrr.cell
   have lt_r:=hrr.lt
   clear hrr
   rcases (show j=0∨j=1∨j=2 by omega) with rfl | rfl | rfl
   ·skip
    have b_30:=(Below.refl wr.heap.size wr)
    have s_30:=b_30.size
    go_upto_region 8 with fail
    refine wp_forget1 (w0:=wr) (B:=wr.heap.size) (b0:=wr.heap.size) (t0:=175) (c0:=#[.int .i64 (a:Int),.int .i64 (b:Int)]) ?_ ?_ ?_
    (focus exact blkcBy)
    (focus (exact belBy))
    intro w31 q_31 hX31
    have sX31:=hX31.size
    have q_lt:=q_31.lt
    have b_31:=b_30.trans (hX31.mono (by omega))
    clear b_30 hX31
    have cell_q:=q_31.cell
    have froz_q:=q_31.frozen
    have lt_q:=q_31.lt
    have hbz:=hbr.trans (b_31.mono zr)
    have HW:=hid (And.intro (HB1.out.1.below (hbz.mono (by omega))) (StayM.of_below (m:=m) (lo:=lo) (HB1.out.2.1.trans (hbz.mono z1))))
    have HBZ:=hid hbz
    clear hbz b_31 q_31
    go_wp2_with fail
    refine Calls.mono (HQa.out _ HW.out.1) ?_
    rintro e w' ⟨rfl,rfl⟩
    go_wp2
    go_roundw
    case rel=>exact ⟨1,rfl,by omega,HBZ.out⟩
    case measure=>simp [intOf]
   ·skip
    have b_30:=(Below.refl wr.heap.size wr)
    have s_30:=b_30.size
    go_upto_region 8 with fail
    refine wp_forget1 (w0:=wr) (B:=wr.heap.size) (b0:=wr.heap.size) (t0:=175) (c0:=#[.int .i64 (b:Int),.int .i64 (a:Int)]) ?_ ?_ ?_
    (focus exact blkcBy)
    (focus (exact belBy))
    intro w31 q_31 hX31
    have sX31:=hX31.size
    have q_lt:=q_31.lt
    have b_31:=b_30.trans (hX31.mono (by omega))
    clear b_30 hX31
    have cell_q:=q_31.cell
    have froz_q:=q_31.frozen
    have lt_q:=q_31.lt
    have hbz:=hbr.trans (b_31.mono zr)
    have HW:=hid (And.intro (HB1.out.1.below (hbz.mono (by omega))) (StayM.of_below (m:=m) (lo:=lo) (HB1.out.2.1.trans (hbz.mono z1))))
    have HBZ:=hid hbz
    clear hbz b_31 q_31
    go_wp2_with fail
    refine Calls.mono (HQb.out _ HW.out.1) ?_
    rintro e w' ⟨rfl,rfl⟩
    go_wp2
    go_roundw
    case rel=>exact ⟨2,rfl,by omega,HBZ.out⟩
    case measure=>simp [intOf]
   ·have HW:=hid (And.intro (HB1.out.1.below (hbr.mono (by omega))) (StayM.of_below (m:=m) (lo:=lo) (HB1.out.2.1.trans (hbr.mono z1))))
    clear hbr
    go_wp2_with fail
    refine Calls.mono (iGateN 3 _ _ _ HW.out.1 HS.out HM.out) ?_
    rintro e w5 ⟨rfl,h5,t5⟩
    have HF:=hid (And.intro h5 (HW.out.2.trans t5))
    clear h5 t5
    go_wp2
    go_returns
    rw [HV.out]
    exact ⟨rfl,HF.out.1,HF.out.2⟩
set_option linter.unusedVariables false in
set_option maxRecDepth 100000 in
set_option maxHeartbeats 3200000 in
theorem iBinary4 {lo bp m:Nat} {gs:List Gt} (a b:Nat) (w:World) (h:SimpB w lo bp m gs) (hsg:SimG gs) (ha:a < gs.length) (hb:b < gs.length) :
  Calls Tryz.prog 168 #[.pointer (some ⟨bp,0,none⟩),.int .i64 4,.int .i64 (a:Int),.int .i64 (b:Int)] w fun e w'=>e=.returned (.int .i64 (binG gs 4 (a:Int) (b:Int)).2)∧SimpB w' lo bp m (binG gs 4 (a:Int) (b:Int)).1∧StayM m lo w w':=by
 have HB:=hid h
 have HS:=hid hsg
 have HZ:=hid (gate2_ok (x:=0) (n:=(gs.length:Int)) (by omega))
 have HM:=hid (gate34_ok (k:=4) (x:=min (a:Int) (b:Int)) (y:=max (a:Int) (b:Int)) (n:=(gs.length:Int)) (by omega) (by omega) (by omega))
 clear h hsg
 by_cases hab:a=b
 ·subst hab
  have HV:=hid (show binG gs 4 (a:Int) (a:Int)=(gs,(a:Int)) by unfold binG; rw [if_pos rfl]; rfl)
  go_enter Tryz.func168,Tryz.ntmps168
  have HW:=hid (And.intro HB.out (StayM.refl m lo w))
  go_wp2
  go_returns
  rw [HV.out]
  exact ⟨rfl,HW.out.1,HW.out.2⟩
 ·have hne:((a:Int) == (b:Int))=false:=by rw [beq_eq_false_iff_ne]; omega
  have hneN:(a == b)=false:=by simpa using hab
  have hne2:¬ ((a:Int)=(b:Int)):=by omega
  have HQa:=hid (fun w h=>iConstant (lo:=lo) (bp:=bp) (m:=m) (gs:=gs) a w h HS.out ha)
  have HQb:=hid (fun w h=>iConstant (lo:=lo) (bp:=bp) (m:=m) (gs:=gs) b w h HS.out hb)
  obtain ⟨va,hva⟩:∃ v,valG gs (a:Int)=v:=⟨_,rfl⟩
  obtain ⟨vb,hvb⟩:∃ v,valG gs (b:Int)=v:=⟨_,rfl⟩
  rw [hva] at HQa
  rw [hvb] at HQb
  have hbin:=show binG gs 4 (a:Int) (b:Int)=halfG gs 4 (a:Int) (b:Int) (halfG gs 4 (b:Int) (a:Int) (put2 gs ⟨4,min (a:Int) (b:Int),max (a:Int) (b:Int)⟩)) by unfold binG; rw [if_neg hne2]
  unfold halfG at hbin
  rw [hva,hvb] at hbin
  clear hva hvb hab hne2
  by_cases a0:va=0
  ·subst a0
   have HV:=hid (show binG gs 4 (a:Int) (b:Int)=put2 gs ⟨2,0,0⟩ by rw [hbin,if_neg (by omega),if_neg (by omega),if_pos rfl])
   clear hbin
   go_enter Tryz.func168,Tryz.ntmps168
   have b_0:=(Below.refl w.heap.size w)
   have s_0:=b_0.size
   go_upto_region 6 with fail
   refine wp_forget1 (w0:=w) (B:=w.heap.size) (b0:=w.heap.size) (t0:=175) (c0:=#[.int .i64 (a:Int),.int .i64 (b:Int),.int .i64 (b:Int),.int .i64 (a:Int)]) ?_ ?_ ?_
   (focus exact blkcBy)
   (focus (exact belBy))
   intro w1 r_1 hX1
   have sX1:=hX1.size
   have r_lt:=r_1.lt
   have b_1:=b_0.trans (hX1.mono (by omega))
   clear b_0 hX1
   have cell_r:=r_1.cell
   have froz_r:=r_1.frozen
   have lt_r:=r_1.lt
   have HB1:=hid (And.intro (HB.out.below b_1) (And.intro b_1 r_1))
   have z1:=b_1.size
   clear r_1 b_1 cell_r froz_r lt_r
   go_loopw [10,11,28,36,53,60] (fun _ _ i _ _ _ wr=>∃ j:Nat,i=.int .i64 (j:Int)∧j≤0∧Below w1.heap.size w1 wr) (fun _ _ i _ _ _ _=>2 - (intOf i).toNat)
   case atStart=>exact ⟨0,rfl,by omega,Below.refl _ _⟩
   obtain ⟨j,rfl,hj,hbr⟩:=hrel
   have hrr:=HB1.out.2.2.past hbr
   have zr:=hbr.size
   have cell_r:=hrr.cell
   have lt_r:=hrr.lt
   clear hrr
   obtain rfl:j=0:=by omega
   have b_30:=(Below.refl wr.heap.size wr)
   have s_30:=b_30.size
   go_upto_region 8 with fail
   refine wp_forget1 (w0:=wr) (B:=wr.heap.size) (b0:=wr.heap.size) (t0:=175) (c0:=#[.int .i64 (a:Int),.int .i64 (b:Int)]) ?_ ?_ ?_
   (focus exact blkcBy)
   (focus (exact belBy))
   intro w31 q_31 hX31
   have sX31:=hX31.size
   have q_lt:=q_31.lt
   have b_31:=b_30.trans (hX31.mono (by omega))
   clear b_30 hX31
   have cell_q:=q_31.cell
   have froz_q:=q_31.frozen
   have lt_q:=q_31.lt
   have hbz:=hbr.trans (b_31.mono zr)
   have HW:=hid (And.intro (HB1.out.1.below (hbz.mono (by omega))) (StayM.of_below (m:=m) (lo:=lo) (HB1.out.2.1.trans (hbz.mono z1))))
   have HBZ:=hid hbz
   clear hbz b_31 q_31
   go_wp2_with fail
   refine Calls.mono (HQa.out _ HW.out.1) ?_
   rintro e w' ⟨rfl,rfl⟩
   go_wp2_with fail
   refine Calls.mono (iGateN 2 0 0 _ HW.out.1 HS.out HZ.out) ?_
   rintro e w5 ⟨rfl,h5,t5⟩
   have HF:=hid (And.intro h5 (HW.out.2.trans t5))
   clear h5 t5
   go_wp2
   go_returns
   rw [HV.out]
   exact ⟨rfl,HF.out.1,HF.out.2⟩
  have a0':(va == 0)=false:=by simpa using a0
  by_cases a1:va=1
  ·subst a1
   have HV:=hid (show binG gs 4 (a:Int) (b:Int)=(gs,(b:Int)) by rw [hbin,if_pos (.inr ⟨rfl,rfl⟩)])
   clear hbin
   go_enter Tryz.func168,Tryz.ntmps168
   have b_0:=(Below.refl w.heap.size w)
   have s_0:=b_0.size
   go_upto_region 6 with fail
   refine wp_forget1 (w0:=w) (B:=w.heap.size) (b0:=w.heap.size) (t0:=175) (c0:=#[.int .i64 (a:Int),.int .i64 (b:Int),.int .i64 (b:Int),.int .i64 (a:Int)]) ?_ ?_ ?_
   (focus exact blkcBy)
   (focus (exact belBy))
   intro w1 r_1 hX1
   have sX1:=hX1.size
   have r_lt:=r_1.lt
   have b_1:=b_0.trans (hX1.mono (by omega))
   clear b_0 hX1
   have cell_r:=r_1.cell
   have froz_r:=r_1.frozen
   have lt_r:=r_1.lt
   have HB1:=hid (And.intro (HB.out.below b_1) (And.intro b_1 r_1))
   have z1:=b_1.size
   clear r_1 b_1 cell_r froz_r lt_r
   go_loopw [10,11,28,36,53,60] (fun _ _ i _ _ _ wr=>∃ j:Nat,i=.int .i64 (j:Int)∧j≤0∧Below w1.heap.size w1 wr) (fun _ _ i _ _ _ _=>2 - (intOf i).toNat)
   case atStart=>exact ⟨0,rfl,by omega,Below.refl _ _⟩
   obtain ⟨j,rfl,hj,hbr⟩:=hrel
   have hrr:=HB1.out.2.2.past hbr
   have zr:=hbr.size
   have cell_r:=hrr.cell
   have lt_r:=hrr.lt
   clear hrr
   obtain rfl:j=0:=by omega
   have b_30:=(Below.refl wr.heap.size wr)
   have s_30:=b_30.size
   go_upto_region 8 with fail
   refine wp_forget1 (w0:=wr) (B:=wr.heap.size) (b0:=wr.heap.size) (t0:=175) (c0:=#[.int .i64 (a:Int),.int .i64 (b:Int)]) ?_ ?_ ?_
   (focus exact blkcBy)
   (focus (exact belBy))
   intro w31 q_31 hX31
   have sX31:=hX31.size
   have q_lt:=q_31.lt
   have b_31:=b_30.trans (hX31.mono (by omega))
   clear b_30 hX31
   have cell_q:=q_31.cell
   have froz_q:=q_31.frozen
   have lt_q:=q_31.lt
   have hbz:=hbr.trans (b_31.mono zr)
   have HW:=hid (And.intro (HB1.out.1.below (hbz.mono (by omega))) (StayM.of_below (m:=m) (lo:=lo) (HB1.out.2.1.trans (hbz.mono z1))))
   have HBZ:=hid hbz
   clear hbz b_31 q_31
   go_wp2_with fail
   refine Calls.mono (HQa.out _ HW.out.1) ?_
   rintro e w' ⟨rfl,rfl⟩
   go_wp2
   go_returns
   rw [HV.out]
   exact ⟨rfl,HW.out.1,HW.out.2⟩
  have a1':(va == 1)=false:=by simpa using a1
  by_cases b0:vb=0
  ·subst b0
   have HV:=hid (show binG gs 4 (a:Int) (b:Int)=put2 gs ⟨2,0,0⟩ by rw [hbin,if_neg (by omega),if_neg (by omega),if_neg (by omega),if_neg (by omega),if_neg (by omega),if_pos rfl])
   clear hbin
   go_enter Tryz.func168,Tryz.ntmps168
   have b_0:=(Below.refl w.heap.size w)
   have s_0:=b_0.size
   go_upto_region 6 with fail
   refine wp_forget1 (w0:=w) (B:=w.heap.size) (b0:=w.heap.size) (t0:=175) (c0:=#[.int .i64 (a:Int),.int .i64 (b:Int),.int .i64 (b:Int),.int .i64 (a:Int)]) ?_ ?_ ?_
   (focus exact blkcBy)
   (focus (exact belBy))
   intro w1 r_1 hX1
   have sX1:=hX1.size
   have r_lt:=r_1.lt
   have b_1:=b_0.trans (hX1.mono (by omega))
   clear b_0 hX1
   have cell_r:=r_1.cell
   have froz_r:=r_1.frozen
   have lt_r:=r_1.lt
   have HB1:=hid (And.intro (HB.out.below b_1) (And.intro b_1 r_1))
   have z1:=b_1.size
   clear r_1 b_1 cell_r froz_r lt_r
   go_loopw [10,11,28,36,53,60] (fun _ _ i _ _ _ wr=>∃ j:Nat,i=.int .i64 (j:Int)∧j≤1∧Below w1.heap.size w1 wr) (fun _ _ i _ _ _ _=>2 - (intOf i).toNat)
   case atStart=>exact ⟨0,rfl,by omega,Below.refl _ _⟩
   obtain ⟨j,rfl,hj,hbr⟩:=hrel
   have hrr:=HB1.out.2.2.past hbr
   have zr:=hbr.size
   have cell_r:=hrr.cell
   have lt_r:=hrr.lt
   clear hrr
   rcases (show j=0∨j=1 by omega) with rfl | rfl
   ·skip
    have b_30:=(Below.refl wr.heap.size wr)
    have s_30:=b_30.size
    go_upto_region 8 with fail
    refine wp_forget1 (w0:=wr) (B:=wr.heap.size) (b0:=wr.heap.size) (t0:=175) (c0:=#[.int .i64 (a:Int),.int .i64 (b:Int)]) ?_ ?_ ?_
    (focus exact blkcBy)
    (focus (exact belBy))
    intro w31 q_31 hX31
    have sX31:=hX31.size
    have q_lt:=q_31.lt
    have b_31:=b_30.trans (hX31.mono (by omega))
    clear b_30 hX31
    have cell_q:=q_31.cell
    have froz_q:=q_31.frozen
    have lt_q:=q_31.lt
    have hbz:=hbr.trans (b_31.mono zr)
    have HW:=hid (And.intro (HB1.out.1.below (hbz.mono (by omega))) (StayM.of_below (m:=m) (lo:=lo) (HB1.out.2.1.trans (hbz.mono z1))))
    have HBZ:=hid hbz
    clear hbz b_31 q_31
    go_wp2_with fail
    refine Calls.mono (HQa.out _ HW.out.1) ?_
    rintro e w' ⟨rfl,rfl⟩
    go_wp2
    go_roundw
    case rel=>exact ⟨1,rfl,by omega,HBZ.out⟩
    case measure=>simp [intOf]
   ·skip
    have b_30:=(Below.refl wr.heap.size wr)
    have s_30:=b_30.size
    go_upto_region 8 with fail
    refine wp_forget1 (w0:=wr) (B:=wr.heap.size) (b0:=wr.heap.size) (t0:=175) (c0:=#[.int .i64 (b:Int),.int .i64 (a:Int)]) ?_ ?_ ?_
    (focus exact blkcBy)
    (focus (exact belBy))
    intro w31 q_31 hX31
    have sX31:=hX31.size
    have q_lt:=q_31.lt
    have b_31:=b_30.trans (hX31.mono (by omega))
    clear b_30 hX31
    have cell_q:=q_31.cell
    have froz_q:=q_31.frozen
    have lt_q:=q_31.lt
    have hbz:=hbr.trans (b_31.mono zr)
    have HW:=hid (And.intro (HB1.out.1.below (hbz.mono (by omega))) (StayM.of_below (m:=m) (lo:=lo) (HB1.out.2.1.trans (hbz.mono z1))))
    have HBZ:=hid hbz
    clear hbz b_31 q_31
    go_wp2_with fail
    refine Calls.mono (HQb.out _ HW.out.1) ?_
    rintro e w' ⟨rfl,rfl⟩
    go_wp2_with fail
    refine Calls.mono (iGateN 2 0 0 _ HW.out.1 HS.out HZ.out) ?_
    rintro e w5 ⟨rfl,h5,t5⟩
    have HF:=hid (And.intro h5 (HW.out.2.trans t5))
    clear h5 t5
    go_wp2
    go_returns
    rw [HV.out]
    exact ⟨rfl,HF.out.1,HF.out.2⟩
  have b0':(vb == 0)=false:=by simpa using b0
  by_cases b1:vb=1
  ·subst b1
   have HV:=hid (show binG gs 4 (a:Int) (b:Int)=(gs,(a:Int)) by rw [hbin,if_neg (by omega),if_neg (by omega),if_neg (by omega),if_pos (.inr ⟨rfl,rfl⟩)])
   clear hbin
   go_enter Tryz.func168,Tryz.ntmps168
   have b_0:=(Below.refl w.heap.size w)
   have s_0:=b_0.size
   go_upto_region 6 with fail
   refine wp_forget1 (w0:=w) (B:=w.heap.size) (b0:=w.heap.size) (t0:=175) (c0:=#[.int .i64 (a:Int),.int .i64 (b:Int),.int .i64 (b:Int),.int .i64 (a:Int)]) ?_ ?_ ?_
   (focus exact blkcBy)
   (focus (exact belBy))
   intro w1 r_1 hX1
   have sX1:=hX1.size
   have r_lt:=r_1.lt
   have b_1:=b_0.trans (hX1.mono (by omega))
   clear b_0 hX1
   have cell_r:=r_1.cell
   have froz_r:=r_1.frozen
   have lt_r:=r_1.lt
   have HB1:=hid (And.intro (HB.out.below b_1) (And.intro b_1 r_1))
   have z1:=b_1.size
   clear r_1 b_1 cell_r froz_r lt_r
   go_loopw [10,11,28,36,53,60] (fun _ _ i _ _ _ wr=>∃ j:Nat,i=.int .i64 (j:Int)∧j≤1∧Below w1.heap.size w1 wr) (fun _ _ i _ _ _ _=>2 - (intOf i).toNat)
   case atStart=>exact ⟨0,rfl,by omega,Below.refl _ _⟩
   obtain ⟨j,rfl,hj,hbr⟩:=hrel
   have hrr:=HB1.out.2.2.past hbr
   have zr:=hbr.size
   have cell_r:=hrr.cell
   have lt_r:=hrr.lt
   clear hrr
   rcases (show j=0∨j=1 by omega) with rfl | rfl
   ·skip
    have b_30:=(Below.refl wr.heap.size wr)
    have s_30:=b_30.size
    go_upto_region 8 with fail
    refine wp_forget1 (w0:=wr) (B:=wr.heap.size) (b0:=wr.heap.size) (t0:=175) (c0:=#[.int .i64 (a:Int),.int .i64 (b:Int)]) ?_ ?_ ?_
    (focus exact blkcBy)
    (focus (exact belBy))
    intro w31 q_31 hX31
    have sX31:=hX31.size
    have q_lt:=q_31.lt
    have b_31:=b_30.trans (hX31.mono (by omega))
    clear b_30 hX31
    have cell_q:=q_31.cell
    have froz_q:=q_31.frozen
    have lt_q:=q_31.lt
    have hbz:=hbr.trans (b_31.mono zr)
    have HW:=hid (And.intro (HB1.out.1.below (hbz.mono (by omega))) (StayM.of_below (m:=m) (lo:=lo) (HB1.out.2.1.trans (hbz.mono z1))))
    have HBZ:=hid hbz
    clear hbz b_31 q_31
    go_wp2_with fail
    refine Calls.mono (HQa.out _ HW.out.1) ?_
    rintro e w' ⟨rfl,rfl⟩
    go_wp2
    go_roundw
    case rel=>exact ⟨1,rfl,by omega,HBZ.out⟩
    case measure=>simp [intOf]
   ·skip
    have b_30:=(Below.refl wr.heap.size wr)
    have s_30:=b_30.size
    go_upto_region 8 with fail
    refine wp_forget1 (w0:=wr) (B:=wr.heap.size) (b0:=wr.heap.size) (t0:=175) (c0:=#[.int .i64 (b:Int),.int .i64 (a:Int)]) ?_ ?_ ?_
    (focus exact blkcBy)
    (focus (exact belBy))
    intro w31 q_31 hX31
    have sX31:=hX31.size
    have q_lt:=q_31.lt
    have b_31:=b_30.trans (hX31.mono (by omega))
    clear b_30 hX31
    have cell_q:=q_31.cell
    have froz_q:=q_31.frozen
    have lt_q:=q_31.lt
    have hbz:=hbr.trans (b_31.mono zr)
    have HW:=hid (And.intro (HB1.out.1.below (hbz.mono (by omega))) (StayM.of_below (m:=m) (lo:=lo) (HB1.out.2.1.trans (hbz.mono z1))))
    have HBZ:=hid hbz
    clear hbz b_31 q_31
    go_wp2_with fail
    refine Calls.mono (HQb.out _ HW.out.1) ?_
    rintro e w' ⟨rfl,rfl⟩
    go_wp2
    go_returns
    rw [HV.out]
    exact ⟨rfl,HW.out.1,HW.out.2⟩
  have b1':(vb == 1)=false:=by simpa using b1
  by_cases hlt:b < a
  ·have hl1:(b:Int) < (a:Int):=by have hab3:a≠b:=(by simpa using hneN); omega
   rw [show min (a:Int) (b:Int)=(b:Int) by omega,show max (a:Int) (b:Int)=(a:Int) by omega] at HM hbin
   clear hlt
   have HV:=hid (show binG gs 4 (a:Int) (b:Int)=put2 gs ⟨4,(b:Int),(a:Int)⟩ by rw [hbin,if_neg (by omega),if_neg (by omega),if_neg (by omega),if_neg (by omega),if_neg (by omega),if_neg (by omega)])
   clear hbin
   go_enter Tryz.func168,Tryz.ntmps168
   have b_0:=(Below.refl w.heap.size w)
   have s_0:=b_0.size
   go_upto_region 6 with fail
   refine wp_forget1 (w0:=w) (B:=w.heap.size) (b0:=w.heap.size) (t0:=175) (c0:=#[.int .i64 (a:Int),.int .i64 (b:Int),.int .i64 (b:Int),.int .i64 (a:Int)]) ?_ ?_ ?_
   (focus exact blkcBy)
   (focus (exact belBy))
   intro w1 r_1 hX1
   have sX1:=hX1.size
   have r_lt:=r_1.lt
   have b_1:=b_0.trans (hX1.mono (by omega))
   clear b_0 hX1
   have cell_r:=r_1.cell
   have froz_r:=r_1.frozen
   have lt_r:=r_1.lt
   have HB1:=hid (And.intro (HB.out.below b_1) (And.intro b_1 r_1))
   have z1:=b_1.size
   clear r_1 b_1 cell_r froz_r lt_r
   go_loopw [10,11,28,36,53,60] (fun _ _ i _ _ _ wr=>∃ j:Nat,i=.int .i64 (j:Int)∧j≤2∧Below w1.heap.size w1 wr) (fun _ _ i _ _ _ _=>2 - (intOf i).toNat)
   case atStart=>exact ⟨0,rfl,by omega,Below.refl _ _⟩
   obtain ⟨j,rfl,hj,hbr⟩:=hrel
   have hrr:=HB1.out.2.2.past hbr
   have zr:=hbr.size
   have cell_r:=hrr.cell
   have lt_r:=hrr.lt
   clear hrr
   rcases (show j=0∨j=1∨j=2 by omega) with rfl | rfl | rfl
   ·skip
    have b_30:=(Below.refl wr.heap.size wr)
    have s_30:=b_30.size
    go_upto_region 8 with fail
    refine wp_forget1 (w0:=wr) (B:=wr.heap.size) (b0:=wr.heap.size) (t0:=175) (c0:=#[.int .i64 (a:Int),.int .i64 (b:Int)]) ?_ ?_ ?_
    (focus exact blkcBy)
    (focus (exact belBy))
    intro w31 q_31 hX31
    have sX31:=hX31.size
    have q_lt:=q_31.lt
    have b_31:=b_30.trans (hX31.mono (by omega))
    clear b_30 hX31
    have cell_q:=q_31.cell
    have froz_q:=q_31.frozen
    have lt_q:=q_31.lt
    have hbz:=hbr.trans (b_31.mono zr)
    have HW:=hid (And.intro (HB1.out.1.below (hbz.mono (by omega))) (StayM.of_below (m:=m) (lo:=lo) (HB1.out.2.1.trans (hbz.mono z1))))
    have HBZ:=hid hbz
    clear hbz b_31 q_31
    go_wp2_with fail
    refine Calls.mono (HQa.out _ HW.out.1) ?_
    rintro e w' ⟨rfl,rfl⟩
    go_wp2
    go_roundw
    case rel=>exact ⟨1,rfl,by omega,HBZ.out⟩
    case measure=>simp [intOf]
   ·skip
    have b_30:=(Below.refl wr.heap.size wr)
    have s_30:=b_30.size
    go_upto_region 8 with fail
    refine wp_forget1 (w0:=wr) (B:=wr.heap.size) (b0:=wr.heap.size) (t0:=175) (c0:=#[.int .i64 (b:Int),.int .i64 (a:Int)]) ?_ ?_ ?_
    (focus exact blkcBy)
    (focus (exact belBy))
    intro w31 q_31 hX31
    have sX31:=hX31.size
    have q_lt:=q_31.lt
    have b_31:=b_30.trans (hX31.mono (by omega))
    clear b_30 hX31
    have cell_q:=q_31.cell
    have froz_q:=q_31.frozen
    have lt_q:=q_31.lt
    have hbz:=hbr.trans (b_31.mono zr)
    have HW:=hid (And.intro (HB1.out.1.below (hbz.mono (by omega))) (StayM.of_below (m:=m) (lo:=lo) (HB1.out.2.1.trans (hbz.mono z1))))
    have HBZ:=hid hbz
    clear hbz b_31 q_31
    go_wp2_with fail
    refine Calls.mono (HQb.out _ HW.out.1) ?_
    rintro e w' ⟨rfl,rfl⟩
    go_wp2
    go_roundw
    case rel=>exact ⟨2,rfl,by omega,HBZ.out⟩
    case measure=>simp [intOf]
   ·have HW:=hid (And.intro (HB1.out.1.below (hbr.mono (by omega))) (StayM.of_below (m:=m) (lo:=lo) (HB1.out.2.1.trans (hbr.mono z1))))
    clear hbr
    go_wp2_with fail
    refine Calls.mono (iGateN 4 _ _ _ HW.out.1 HS.out HM.out) ?_
    rintro e w5 ⟨rfl,h5,t5⟩
    have HF:=hid (And.intro h5 (HW.out.2.trans t5))
    clear h5 t5
    go_wp2
    go_returns
    rw [HV.out]
    exact ⟨rfl,HF.out.1,HF.out.2⟩
  ·have hl1:(a:Int) < (b:Int):=by have hab3:a≠b:=(by simpa using hneN); omega
   have hl2:¬ ((b:Int) < (a:Int)):=by omega
   rw [show min (a:Int) (b:Int)=(a:Int) by omega,show max (a:Int) (b:Int)=(b:Int) by omega] at HM hbin
   clear hlt
   have HV:=hid (show binG gs 4 (a:Int) (b:Int)=put2 gs ⟨4,(a:Int),(b:Int)⟩ by rw [hbin,if_neg (by omega),if_neg (by omega),if_neg (by omega),if_neg (by omega),if_neg (by omega),if_neg (by omega)])
   clear hbin
   go_enter Tryz.func168,Tryz.ntmps168
   have b_0:=(Below.refl w.heap.size w)
   have s_0:=b_0.size
   go_upto_region 6 with fail
   refine wp_forget1 (w0:=w) (B:=w.heap.size) (b0:=w.heap.size) (t0:=175) (c0:=#[.int .i64 (a:Int),.int .i64 (b:Int),.int .i64 (b:Int),.int .i64 (a:Int)]) ?_ ?_ ?_
   (focus exact blkcBy)
   (focus (exact belBy))
   intro w1 r_1 hX1
   have sX1:=hX1.size
   have r_lt:=r_1.lt
   have b_1:=b_0.trans (hX1.mono (by omega))
   clear b_0 hX1
   have cell_r:=r_1.cell
   have froz_r:=r_1.frozen
   have lt_r:=r_1.lt
   have HB1:=hid (And.intro (HB.out.below b_1) (And.intro b_1 r_1))
   have z1:=b_1.size
   clear r_1 b_1 cell_r froz_r lt_r
   go_loopw [10,11,28,36,53,60] (fun _ _ i _ _ _ wr=>∃ j:Nat,i=.int .i64 (j:Int)∧j≤2∧Below w1.heap.size w1 wr) (fun _ _ i _ _ _ _=>2 - (intOf i).toNat)
   case atStart=>exact ⟨0,rfl,by omega,Below.refl _ _⟩
   obtain ⟨j,rfl,hj,hbr⟩:=hrel
   have hrr:=HB1.out.2.2.past hbr
   have zr:=hbr.size
   have cell_r:=hrr.cell
   have lt_r:=hrr.lt
   clear hrr
   rcases (show j=0∨j=1∨j=2 by omega) with rfl | rfl | rfl
   ·skip
    have b_30:=(Below.refl wr.heap.size wr)
    have s_30:=b_30.size
    go_upto_region 8 with fail
    refine wp_forget1 (w0:=wr) (B:=wr.heap.size) (b0:=wr.heap.size) (t0:=175) (c0:=#[.int .i64 (a:Int),.int .i64 (b:Int)]) ?_ ?_ ?_
    (focus exact blkcBy)
    (focus (exact belBy))
    intro w31 q_31 hX31
    have sX31:=hX31.size
    have q_lt:=q_31.lt
    have b_31:=b_30.trans (hX31.mono (by omega))
    clear b_30 hX31
    have cell_q:=q_31.cell
    have froz_q:=q_31.frozen
    have lt_q:=q_31.lt
    have hbz:=hbr.trans (b_31.mono zr)
    have HW:=hid (And.intro (HB1.out.1.below (hbz.mono (by omega))) (StayM.of_below (m:=m) (lo:=lo) (HB1.out.2.1.trans (hbz.mono z1))))
    have HBZ:=hid hbz
    clear hbz b_31 q_31
    go_wp2_with fail
    refine Calls.mono (HQa.out _ HW.out.1) ?_
    rintro e w' ⟨rfl,rfl⟩
    go_wp2
    go_roundw
    case rel=>exact ⟨1,rfl,by omega,HBZ.out⟩
    case measure=>simp [intOf]
   ·skip
    have b_30:=(Below.refl wr.heap.size wr)
    have s_30:=b_30.size
    go_upto_region 8 with fail
    refine wp_forget1 (w0:=wr) (B:=wr.heap.size) (b0:=wr.heap.size) (t0:=175) (c0:=#[.int .i64 (b:Int),.int .i64 (a:Int)]) ?_ ?_ ?_
    (focus exact blkcBy)
    (focus (exact belBy))
    intro w31 q_31 hX31
    have sX31:=hX31.size
    have q_lt:=q_31.lt
    have b_31:=b_30.trans (hX31.mono (by omega))
    clear b_30 hX31
    have cell_q:=q_31.cell
    have froz_q:=q_31.frozen
    have lt_q:=q_31.lt
    have hbz:=hbr.trans (b_31.mono zr)
    have HW:=hid (And.intro (HB1.out.1.below (hbz.mono (by omega))) (StayM.of_below (m:=m) (lo:=lo) (HB1.out.2.1.trans (hbz.mono z1))))
    have HBZ:=hid hbz
    clear hbz b_31 q_31
    go_wp2_with fail
    refine Calls.mono (HQb.out _ HW.out.1) ?_
    rintro e w' ⟨rfl,rfl⟩
    go_wp2
    go_roundw
    case rel=>exact ⟨2,rfl,by omega,HBZ.out⟩
    case measure=>simp [intOf]
   ·have HW:=hid (And.intro (HB1.out.1.below (hbr.mono (by omega))) (StayM.of_below (m:=m) (lo:=lo) (HB1.out.2.1.trans (hbr.mono z1))))
    clear hbr
    go_wp2_with fail
    refine Calls.mono (iGateN 4 _ _ _ HW.out.1 HS.out HM.out) ?_
    rintro e w5 ⟨rfl,h5,t5⟩
    have HF:=hid (And.intro h5 (HW.out.2.trans t5))
    clear h5 t5
    go_wp2
    go_returns
    rw [HV.out]
    exact ⟨rfl,HF.out.1,HF.out.2⟩
open Go.RowKit
theorem gate1_ok {x n:Int} (h:0≤x∧x≤79):gateB ⟨1,x,0⟩ n=true:=by
 have e:gateB ⟨1,x,0⟩ n=(inB x 0 79 && (0:Int) == 0):=by
  unfold gateB
  rw [if_pos rfl]
 rw [e,Bool.and_eq_true,inB_iff]
 exact ⟨h,rfl⟩
structure SimJ (w:World) (bp mm gt kt:Nat) (G:Option Addr) (n cg:Nat) (O:Option Addr) (m co:Nat) (out:List Gt) (tw:List Int) (wr:World):Prop where
 x:Blk wr w.heap.size TS #[.slice G n cg,.slice O m co]
 r:Blk wr (w.heap.size + 1) TS #[.slice none 0 0,.slice none 0 0]
 b:SimpB wr mm bp mm out
 t:RowI wr gt tw.length kt tw
 bl:Below w.heap.size w wr
 lg:w.heap.size≤gt
 lb:w.heap.size + 2≤mm
structure SimO (w:World) (lo bc gt kt:Nat) (G:Option Addr) (n cg:Nat) (O:Option Addr) (m co:Nat) (out:List Gt) (Gx:Option Addr) (cx:Nat) (tw:List Int) (A:Option Addr) (kO:Nat) (os:List Int) (wr:World):Prop where
 x:Blk wr w.heap.size TS #[.slice G n cg,.slice O m co]
 r:Blk wr (w.heap.size + 1) TS #[.slice none 0 0,.slice none 0 0]
 b:Blk wr bc TS #[.slice Gx out.length cx,.slice A os.length kO]
 g:wr.ownsRow lo TG 3 (.slice Gx out.length cx) out.length (ints (flatG out))
 t:RowI wr gt tw.length kt tw
 o:wr.ownsRow bc 3 1 (.slice A os.length kO) os.length (ints os)
 no:∀ q,(Value.slice A os.length kO).ownBlock=some q→q≠gt
 bl:Below w.heap.size w wr
 lg:w.heap.size≤gt
 lb:w.heap.size + 2≤lo
 lc:lo≤bc
section
variable {w:World} {bp mm lo bc gt kt:Nat} {G:Option Addr} {n cg:Nat} {O:Option Addr} {m co:Nat} {out:List Gt} {tw:List Int} {A Gx:Option Addr} {kO cx:Nat} {os:List Int} {wr w':World}
theorem SimpB.heap {lo bp m:Nat} {gs:List Gt} {w w':World} (h:SimpB w lo bp m gs) (e:w'.heap=w.heap):SimpB w' lo bp m gs:=⟨Bld.heap h.b e,h.k.keep (by rw [e]),h.lo⟩
theorem SimJ.below (h:SimJ w bp mm gt kt G n cg O m co out tw wr) (hb:Below wr.heap.size wr w'):SimJ w bp mm gt kt G n cg O m co out tw w' :=
 ⟨h.x.past hb,h.r.past hb,h.b.below hb,h.t.below hb,h.bl.trans (hb.mono h.bl.size),h.lg,h.lb⟩
theorem SimJ.stay {out':List Gt} (h:SimJ w bp mm gt kt G n cg O m co out tw wr) (hb:SimpB w' mm bp mm out') (t:StayM mm mm wr w'):SimJ w bp mm gt kt G n cg O m co out' tw w':=by
 have hl:=h.lb
 have hxl:=h.x.lt
 have hrl:=h.r.lt
 have hml:=h.b.k.lt
 exact ⟨(t.block _ hxl (.inl (by omega))).trans h.x,(t.block _ hrl (.inl (by omega))).trans h.r,hb,t.row h.b.k h.t (by decide) (by decide),h.bl.trans ((t.below (by omega)).mono (by omega)),h.lg,h.lb⟩
theorem SimJ.note {x:Int} {g' k':Nat} (h:SimJ w bp mm gt kt G n cg O m co out tw wr) (h1:RowI w' g' (tw.length + 1) k' (tw ++ [x])) (h2:wr.grownBy w' (some gt)) (h3:g'=gt∨wr.heap.size≤g'):SimJ w bp mm g' k' G n cg O m co out (tw ++ [x]) w':=by
 have hl:(tw ++ [x]).length=tw.length + 1:=by simp
 have hsz:=h.bl.size
 refine ⟨h.x.grown h2 (fun e=>?_),h.r.grown h2 (fun e=>?_),⟨h.b.b.grown h2 h.t (by decide),h.b.k.keep (h2.block mm h.b.k.lt (fun e=>?_)),h.b.lo⟩,by rw [hl]; exact h1,below_apps h.bl h2 h.bl.size h.lg,?_,h.lb⟩
 ·injection e with e
  exact h.t.not_blk h.x (by decide) e.symm
 ·injection e with e
  exact h.t.not_blk h.r (by decide) e.symm
 ·injection e with e
  first | exact h.b.k.not_row h.t e | exact h.b.k.not_row h.t e.symm
 ·have:=h.lg
  rcases h3 with rfl | h3 <;> omega
theorem SimJ.start {w3:World} (hx:Blk w3 w.heap.size TS #[.slice G n cg,.slice O m co]) (hr:Blk w3 (w.heap.size + 1) TS #[.slice none 0 0,.slice none 0 0]) (hb:Below w.heap.size w w3) :
  SimJ w (w3.heap.size + 1) w3.heap.size (w3.heap.size + 1 + 1) 0 G n cg O m co [] [] (((w3.alloc (.map #[] 0)).alloc (.cells #[.slice none 0 0,.map (some w3.heap.size)] TM)).alloc (.cells #[] 3)):=by
 have hrl:=hr.lt
 have b1:Below w3.heap.size w3 (w3.alloc (.map #[] 0)):=(Below.refl _ _).alloc (Nat.le_refl _) _
 have k1:GMap (w3.alloc (.map #[] 0)) w3.heap.size []:=⟨#[],0,by show (w3.heap.push (.map #[] 0))[w3.heap.size]? = _; simp,rfl,fun i g h=>by simp at h⟩
 have s1:(w3.alloc (.map #[] 0)).heap.size=w3.heap.size + 1:=by simp
 generalize w3.alloc (.map #[] 0)=w4 at b1 k1 s1 ⊢
 have b2:Below w4.heap.size w4 (w4.alloc (.cells #[.slice none 0 0,.map (some w3.heap.size)] TM)):=(Below.refl _ _).alloc (Nat.le_refl _) _
 have x2:Blk (w4.alloc (.cells #[.slice none 0 0,.map (some w3.heap.size)] TM)) (w3.heap.size + 1) TM #[.slice none 0 0,.map (some w3.heap.size)]:=Blk.new s1.symm
 have s2:(w4.alloc (.cells #[.slice none 0 0,.map (some w3.heap.size)] TM)).heap.size=w3.heap.size + 1 + 1:=by simp [s1]
 generalize w4.alloc (.cells #[.slice none 0 0,.map (some w3.heap.size)] TM)=w5 at b2 x2 s2 ⊢
 have b3:Below w5.heap.size w5 (w5.alloc (.cells #[] 3)):=(Below.refl _ _).alloc (Nat.le_refl _) _
 have t3:RowI (w5.alloc (.cells #[] 3)) (w3.heap.size + 1 + 1) 0 0 []:=Row.new #[] (Nat.zero_le _) rfl s2.symm
 generalize w5.alloc (.cells #[] 3)=w6 at b3 t3 ⊢
 have bb:Below w3.heap.size w3 w6:=(b1.trans (b2.mono (by omega))).trans (b3.mono (by omega))
 exact ⟨hx.past bb,hr.past bb,⟨⟨none,0,x2.past b3,by omega,own_none⟩,(k1.below b2).below b3,Nat.le_refl _⟩,t3,hb.trans (bb.mono hb.size),by have:=hb.size; omega,by omega⟩
theorem SimO.start {c:Nat} (h:SimJ w bp mm gt kt G n cg O m co out tw wr) (hg:wr.ownsRow mm TG 3 (.slice Gx out.length c) out.length (ints (flatG out))) :
  SimO w mm wr.heap.size gt kt G n cg O m co out Gx c tw none 0 [] (wr.alloc (.cells #[.slice Gx out.length c,.slice none 0 0] TS)):=by
 have b1:Below wr.heap.size wr (wr.alloc (.cells #[.slice Gx out.length c,.slice none 0 0] TS)):=(Below.refl _ _).alloc (Nat.le_refl _) _
 have h2:=h.below b1
 exact ⟨h2.x,h2.r,Blk.new rfl,own_below hg b1,h2.t,own_none,(fun q hq=>by cases hq),h2.bl,h2.lg,h2.lb,by have:=h.b.k.lt; omega⟩
theorem SimO.below (h:SimO w lo bc gt kt G n cg O m co out Gx cx tw A kO os wr) (hb:Below wr.heap.size wr w'):SimO w lo bc gt kt G n cg O m co out Gx cx tw A kO os w' :=
 ⟨h.x.past hb,h.r.past hb,h.b.past hb,own_below h.g hb,h.t.below hb,own_below h.o hb,h.no,h.bl.trans (hb.mono h.bl.size),h.lg,h.lb,h.lc⟩
theorem SimO.app {ws:Int} {g' k':Nat} {w5 X:World} (h:SimO w lo bc gt kt G n cg O m co out Gx cx tw A kO os wr)
  (hX:Below wr.heap.size wr X) (h1:w5.ownsRow bc 3 1 (.slice (some ⟨g',0,none⟩) (os.length + 1) k') (os.length + 1) (ints (os ++ [ws]))) (h2:X.grownBy w5 (Value.slice A os.length kO).ownBlock) (h3:(Value.slice A os.length kO).ownBlock=some g'∨wr.heap.size≤g') :
  SimO w lo bc gt kt G n cg O m co out Gx cx tw (some ⟨g',0,none⟩) k' (os ++ [ws]) (w5.setCell ⟨bc,1,none⟩ (.slice (some ⟨g',0,none⟩) (os.length + 1) k')):=by
 have hl:(os ++ [ws]).length=os.length + 1:=by simp
 have hsz:=h.bl.size
 have hlb:=h.lb
 have hlc:=h.lc
 have hlo:=own_in (own_below h.o hX)
 have h2:=below_grown hX h2
 have x5:=gr_blk h2 h.b (own_ne_obj h.o h.b (by decide))
 have p5:=gr_blk h2 h.x (own_ne_obj h.o h.x (by decide))
 have r5:=gr_blk h2 h.r (own_ne_obj h.o h.r (by decide))
 have g5:=gr_own h2 h.g (fun q p hq hp=>own_ne h.o h.g (by decide) q p hq hp)
 have t5:RowI w5 gt tw.length kt tw:=gr_own h2 h.t (fun q p hq hp=>by have:=own_here p hp; subst this; exact h.no q hq)
 have b5:Below w.heap.size w w5:=gr_below h2 h.bl hsz (fun q hq=>by have:=(own_in h.o q hq).1; omega)
 have ts:Touch [bc] w5 (w5.setCell ⟨bc,1,none⟩ (.slice (some ⟨g',0,none⟩) (os.length + 1) k')):=(Touch.refl _ _).set_ _ _ (by simp)
 have hm:∀ q,q≠bc→q ∉ [bc]:=fun q hq=>by simp [hq]
 have htl:=h.t.lt
 refine ⟨Blk.touch ts p5 (hm _ (by omega)),Blk.touch ts r5 (hm _ (by omega)),?_,own_touch' ts g5 (fun q hq=>hm q (own_ne_obj g5 x5 (by decide) q hq)),Row.touch t5 ts (hm _ (t5.not_blk x5 (by decide))),?_,fun q hq=>?_,ts.below' b5 (fun i hi=>by simp at hi; omega) b5.size,h.lg,h.lb,h.lc⟩
 ·rw [hl]
  exact x5.set_ 1 _
 ·rw [hl]
  exact own_touch' ts h1 (fun q hq=>hm q (own_ne_obj h1 x5 (by decide) q hq))
 ·have:=own_here q hq
  subst this
  rcases h3 with h3 | h3
  ·exact h.no _ h3
  ·omega
end
set_option linter.unusedVariables false in
set_option maxRecDepth 100000 in
set_option maxHeartbeats 6400000 in
theorem iSimplify (G O:Option Addr) (cg co:Nat) (gs:List Gt) (os:List Int) (w:World) (hg:Cells w w.heap.size G (ints (flatG gs))) (ho:Cells w w.heap.size O (ints os)) (hok:circB gs os=true) (hm:os.length≤1000000) :
  Calls Tryz.prog 104 #[.agg #[.slice G gs.length cg,.slice O os.length co]] w (GivesK w (simpC gs os).1 (simpC gs os).2):=by
 obtain ⟨hn6,hgv,hov⟩:=circ_parts hok
 have HG:=hid hg
 have HO:=hid ho
 have HK:=hid (fun w hg ho=>iCircOk G O cg co gs os w hg ho (by omega) hm)
 rw [hok] at HK
 have HT:=hid (simp_take hgv)
 have HA:=hid (simp_all hgv)
 have HV:=hid hgv
 have HOV:=hid (outs_wire hov)
 have HR:=hid (show simpC gs os=((simpTo gs).1,mapO (simpTo gs).2 os) by unfold simpC; rw [if_pos hok])
 clear hg ho hok hgv hov
 go_enter Tryz.func104,Tryz.ntmps104
 have b_0:=(Below.refl w.heap.size w)
 have s_0:=b_0.size
 go_upto_region 1 with fail
 refine wp_forget2 (w0:=w) (B:=w.heap.size) (b0:=w.heap.size) (t0:=40) (c0:=#[.slice G gs.length cg,.slice O os.length co]) (b1:=w.heap.size + 1) (t1:=40) (c1:=#[.slice none 0 0,.slice none 0 0]) ?_ ?_ ?_ ?_
 (focus exact blkcBy2)
 (focus exact blkcBy2)
 (focus (exact belBy))
 intro w1 x_1 r_1 hX1
 have sX1:=hX1.size
 have x_lt:=x_1.lt
 have r_lt:=r_1.lt
 have b_1:=b_0.trans (hX1.mono (by omega))
 clear b_0 hX1
 have cell_x:=x_1.cell
 have froz_x:=x_1.frozen
 have lt_x:=x_1.lt
 have cell_r:=r_1.cell
 have froz_r:=r_1.frozen
 have lt_r:=r_1.lt
 go_wp2_with fail
 refine calls_forget0 (W:=w1) ?_ ?_
 (focus (exact belBy))
 intro X2 hX2
 have sX2:=hX2.size
 refine (HK.out _ ((HG.out.below (b_1.trans (hX2.mono (by omega)))).more (by omega)) ((HO.out.below (b_1.trans (hX2.mono (by omega)))).more (by omega))).mono ?_
 rintro e w2 ⟨rfl,hb2⟩
 have s2:=hb2.size
 have hT2:=hX2.trans (hb2.mono sX2)
 have b_2:=b_1.trans (hT2.mono (by omega))
 have x_2:=Blk.past hT2 x_1
 have r_2:=Blk.past hT2 r_1
 clear x_1 r_1 b_1 cell_x froz_x lt_x cell_r froz_r lt_r hX2 hT2 hb2
 have cell_x:=x_2.cell
 have froz_x:=x_2.frozen
 have lt_x:=x_2.lt
 have cell_r:=r_2.cell
 have froz_r:=r_2.frozen
 have lt_r:=r_2.lt
 go_upto_region 3 with fail
 refine wp_forget0 (w0:=w2) (B:=w2.heap.size) ?_ ?_
 (focus (exact belBy))
 intro w3 hX3
 have sX3:=hX3.size
 have b_3:=b_2.trans (hX3.mono (by omega))
 have x_3:=Blk.past hX3 x_2
 have r_3:=Blk.past hX3 r_2
 clear x_2 r_2 b_2 cell_x froz_x lt_x cell_r froz_r lt_r hX3
 have cell_x:=x_3.cell
 have froz_x:=x_3.frozen
 have lt_x:=x_3.lt
 have cell_r:=r_3.cell
 have froz_r:=r_3.frozen
 have lt_r:=r_3.lt
 have H3:=hid (SimJ.start x_3 r_3 b_3)
 have z3:=b_3.size
 have r4:=r_3.lt
 clear x_3 r_3 b_3
 have hmm:=@run_makeMap Tryz.prog
 go_upto_region 5 with fail
 clear hmm cell_x froz_x lt_x cell_r froz_r lt_r
 have cell_x:=H3.out.x.cell
 have lt_x:=H3.out.x.lt
 obtain ⟨w4,hw4⟩:∃ w4,w4=((w3.alloc (.map #[] 0)).alloc (.cells #[.slice none 0 0,.map (some w3.heap.size)] TM)).alloc (.cells #[] 3):=⟨_,rfl⟩
 rw [←hw4] at H3 cell_x lt_x ⊢
 obtain ⟨mm,hmm⟩:∃ n,w3.heap.size=n:=⟨_,rfl⟩
 obtain ⟨bp,hbp⟩:∃ n,mm + 1=n:=⟨_,rfl⟩
 obtain ⟨g0,hg0⟩:∃ n,bp + 1=n:=⟨_,rfl⟩
 rw [hmm,hbp,hg0] at H3 ⊢
 clear hw4 hmm hbp hg0
 go_wp2_with fail
 go_loopw [4,6,7,23] (fun o _ _ i wr=>∃ (j gt kt:Nat),j≤gs.length∧i=.int .i64 (j:Int)∧o=.slice (some ⟨gt,0,none⟩) (simpTo (gs.take j)).2.length kt∧SimJ w bp mm gt kt G gs.length cg O os.length co (simpTo (gs.take j)).1 (simpTo (gs.take j)).2 wr) (fun _ _ _ i _=>gs.length - (intOf i).toNat)
 case atStart=>exact ⟨0,g0,0,Nat.zero_le _,rfl,rfl,H3.out⟩
 case round =>
  clear H3
  obtain ⟨j,gt,kt,hj,rfl,rfl,hI⟩:=hrel
  have hok:=HT.out j hj
  have cell_x:=hI.x.cell
  have froz_x:=hI.x.frozen
  have lt_x:=hI.x.lt
  by_cases hlt:j < gs.length
  ·obtain ⟨⟨k,a,b⟩,hx⟩:∃ s,gs[j]? = some s:=⟨_,List.getElem?_eq_getElem hlt⟩
   have hgv:=gatesB_at HV.out hx
   rw [Nat.zero_add] at hgv
   have hst:simpTo (gs.take (j + 1))=simpS (simpTo (gs.take j)) ⟨k,a,b⟩:=by
    obtain ⟨hl,e⟩:=List.getElem?_eq_some_iff.1 hx
    rw [List.take_succ_eq_append_getElem hl,simpTo_snoc,e]
   obtain ⟨bg,og,rfl,hBg,d0,d1,d2⟩:=gt_cells HG.out hI.bl hx
   have hbg:=hI.bl.size
   obtain ⟨st,hst0⟩:∃ c,simpTo (gs.take j)=c:=⟨_,rfl⟩
   rw [hst0] at hI hok hst ⊢
   have hlt':(j:Int) < (gs.length:Int):=by omega
   have hhi:=hok.hi
   have htl:=hok.tl
   have HI:=hid hI
   clear hI hx hst0
   rcases gate_kind hgv with hk | hk | hk | hk | hk
   ·obtain rfl:k=1:=hk
    have hab:=gate_is1 hgv rfl
    dsimp only at hab
    have hb0:=hab.2
    have hab1:=hab.1
    subst hb0
    have hsp:simpP st.1 st.2 ⟨1,a,0⟩=put2 st.1 ⟨1,a,0⟩:=rfl
    have HC:=hid (fun X (h:SimpB X mm bp mm st.1)=>iGateN 1 a 0 X h ⟨by omega,hok.g,hok.ap⟩ (gate1_ok (by omega)))
    have HS:=hid hst
    have HOK:=hid hok
    obtain ⟨P,hP⟩:∃ p,simpP st.1 st.2 ⟨1,a,0⟩=p:=⟨_,rfl⟩
    have hps:simpS st ⟨1,a,0⟩=(P.1,st.2 ++ [P.2]):=by rw [←hP]; rfl
    have HC:=hid (show ∀ X (h:SimpB X mm bp mm st.1),Calls Tryz.prog 170 #[.pointer (some ⟨bp,0,none⟩),.int .i64 1,.int .i64 a,.int .i64 0] X fun e w'=>e=.returned (.int .i64 (simpP st.1 st.2 ⟨1,a,0⟩).2)∧SimpB w' mm bp mm (simpP st.1 st.2 ⟨1,a,0⟩).1∧StayM mm mm X w' from HC.out)
    rw [hP] at HC
    rw [hps] at HS
    have hpw:=(simpP_ok hok hgv).w
    rw [hP] at hpw
    clear hst hok hsp hP hps hgv hab1
    have b_30:=(Below.refl wr.heap.size wr)
    have s_30:=b_30.size
    go_upto_region 9 with fail
    refine wp_forget1 (w0:=wr) (B:=wr.heap.size) (b0:=wr.heap.size) (t0:=96) (c0:=#[.int .i64 1,.int .i64 a,.int .i64 0]) ?_ ?_ ?_
    (focus exact blkcBy2)
    (focus (exact belBy))
    intro w31 q_31 hX31
    have sX31:=hX31.size
    have q_lt:=q_31.lt
    have b_31:=b_30.trans (hX31.mono (by omega))
    clear b_30 hX31
    have cell_q:=q_31.cell
    have froz_q:=q_31.frozen
    have lt_q:=q_31.lt
    have hI:=HI.out.below b_31
    have z31:=b_31.size
    have HI3:=hid hI
    have hgl:=hI.t.lt
    clear hI b_31 q_31 HI
    go_wp2_with fail
    refine Calls.mono (HC.out _ HI3.out.b) ?_
    rintro e w5 ⟨rfl,k1,k2⟩
    have HW:=hid (SimJ.stay HI3.out k1 k2)
    clear k1 k2
    have hT:=HW.out.t
    rw [htl] at hT
    have HT5:=hid hT
    clear hT cell_q froz_q lt_q HC
    go_wp2_with (at_builtin; refine app_int rfl _ _ rfl rfl (HT5.out.alloc _) [P.2] rfl rfl (top_cells _ [_] _) (by omega) ?_)
    intro g' k' w6 h1 h2 h3
    have h2:=grown_alloc h2
    have H6:=hid (HW.out.note (x:=P.2) (by rw [htl]; exact h1) h2 (by (try simp at h3); omega))
    have HL:=hid (show (st.2 ++ [P.2]).length=j + 1 by rw [List.length_append,htl]; rfl)
    clear h1 h2 h3 HT5 HW
    go_wp2
    go_roundw
    case rel=>exact ⟨j + 1,g',k',by omega,by go_num,by rw [HS.out]; exact congrArg (fun q=>Value.slice (some ⟨g',0,none⟩) q k') HL.out.symm,by rw [HS.out]; exact H6.out⟩
    case measure=>simp [intOf]; omega
   ·obtain rfl:k=2:=hk
    have hab:=gate_is2 hgv rfl
    dsimp only at hab
    have hb0:=hab.2
    have hab1:=hab.1
    subst hb0
    have hsp:simpP st.1 st.2 ⟨2,a,0⟩=put2 st.1 ⟨2,a,0⟩:=rfl
    have HC:=hid (fun X (h:SimpB X mm bp mm st.1)=>iGateN 2 a 0 X h ⟨by omega,hok.g,hok.ap⟩ (gate2_ok (by omega)))
    have HS:=hid hst
    have HOK:=hid hok
    obtain ⟨P,hP⟩:∃ p,simpP st.1 st.2 ⟨2,a,0⟩=p:=⟨_,rfl⟩
    have hps:simpS st ⟨2,a,0⟩=(P.1,st.2 ++ [P.2]):=by rw [←hP]; rfl
    have HC:=hid (show ∀ X (h:SimpB X mm bp mm st.1),Calls Tryz.prog 170 #[.pointer (some ⟨bp,0,none⟩),.int .i64 2,.int .i64 a,.int .i64 0] X fun e w'=>e=.returned (.int .i64 (simpP st.1 st.2 ⟨2,a,0⟩).2)∧SimpB w' mm bp mm (simpP st.1 st.2 ⟨2,a,0⟩).1∧StayM mm mm X w' from HC.out)
    rw [hP] at HC
    rw [hps] at HS
    have hpw:=(simpP_ok hok hgv).w
    rw [hP] at hpw
    clear hst hok hsp hP hps hgv hab1
    have b_30:=(Below.refl wr.heap.size wr)
    have s_30:=b_30.size
    go_upto_region 9 with fail
    refine wp_forget1 (w0:=wr) (B:=wr.heap.size) (b0:=wr.heap.size) (t0:=96) (c0:=#[.int .i64 2,.int .i64 a,.int .i64 0]) ?_ ?_ ?_
    (focus exact blkcBy2)
    (focus (exact belBy))
    intro w31 q_31 hX31
    have sX31:=hX31.size
    have q_lt:=q_31.lt
    have b_31:=b_30.trans (hX31.mono (by omega))
    clear b_30 hX31
    have cell_q:=q_31.cell
    have froz_q:=q_31.frozen
    have lt_q:=q_31.lt
    have hI:=HI.out.below b_31
    have z31:=b_31.size
    have HI3:=hid hI
    have hgl:=hI.t.lt
    clear hI b_31 q_31 HI
    go_wp2_with fail
    refine Calls.mono (HC.out _ HI3.out.b) ?_
    rintro e w5 ⟨rfl,k1,k2⟩
    have HW:=hid (SimJ.stay HI3.out k1 k2)
    clear k1 k2
    have hT:=HW.out.t
    rw [htl] at hT
    have HT5:=hid hT
    clear hT cell_q froz_q lt_q HC
    go_wp2_with (at_builtin; refine app_int rfl _ _ rfl rfl (HT5.out.alloc _) [P.2] rfl rfl (top_cells _ [_] _) (by omega) ?_)
    intro g' k' w6 h1 h2 h3
    have h2:=grown_alloc h2
    have H6:=hid (HW.out.note (x:=P.2) (by rw [htl]; exact h1) h2 (by (try simp at h3); omega))
    have HL:=hid (show (st.2 ++ [P.2]).length=j + 1 by rw [List.length_append,htl]; rfl)
    clear h1 h2 h3 HT5 HW
    go_wp2
    go_roundw
    case rel=>exact ⟨j + 1,g',k',by omega,by go_num,by rw [HS.out]; exact congrArg (fun q=>Value.slice (some ⟨g',0,none⟩) q k') HL.out.symm,by rw [HS.out]; exact H6.out⟩
    case measure=>simp [intOf]; omega
   ·obtain rfl:k=3:=hk
    have hab:=gate_is34 hgv (.inl rfl)
    dsimp only at hab
    obtain ⟨a,rfl⟩:=Int.eq_ofNat_of_zero_le hab.1.1
    obtain ⟨b,rfl⟩:=Int.eq_ofNat_of_zero_le hab.2.1
    have hA:=hok.at_ hab.1
    have hB:=hok.at_ hab.2
    rw [Int.toNat_natCast] at hA hB
    obtain ⟨hA1,hA2⟩:=hA
    obtain ⟨hB1,hB2⟩:=hB
    have hsp:simpP st.1 st.2 ⟨3,(a:Int),(b:Int)⟩=binG st.1 3 (st.2.getD a 0) (st.2.getD b 0):=rfl
    obtain ⟨ma,hma⟩:=Int.eq_ofNat_of_zero_le (wireB_iff.1 hA2).1
    obtain ⟨mb,hmb⟩:=Int.eq_ofNat_of_zero_le (wireB_iff.1 hB2).1
    have hma2:=(wireB_iff.1 hA2).2
    have hmb2:=(wireB_iff.1 hB2).2
    rw [hma] at hA1 hma2 hsp
    rw [hmb] at hB1 hmb2 hsp
    have HC:=hid (fun X (h:SimpB X mm bp mm st.1)=>iBinary3 (a:=ma) (b:=mb) X h ⟨by omega,hok.g,hok.ap⟩ (by omega) (by omega))
    rw [←hsp] at HC
    have HS:=hid hst
    have HOK:=hid hok
    obtain ⟨P,hP⟩:∃ p,simpP st.1 st.2 ⟨3,(a:Int),(b:Int)⟩=p:=⟨_,rfl⟩
    have hps:simpS st ⟨3,(a:Int),(b:Int)⟩=(P.1,st.2 ++ [P.2]):=by rw [←hP]; rfl
    rw [hP] at HC
    rw [hps] at HS
    have hpw:=(simpP_ok hok hgv).w
    rw [hP] at hpw
    clear hst hok hsp hP hps hgv hA2 hB2 hma hmb
    have b_30:=(Below.refl wr.heap.size wr)
    have s_30:=b_30.size
    go_upto_region 9 with fail
    refine wp_forget1 (w0:=wr) (B:=wr.heap.size) (b0:=wr.heap.size) (t0:=96) (c0:=#[.int .i64 3,.int .i64 (a:Int),.int .i64 (b:Int)]) ?_ ?_ ?_
    (focus exact blkcBy2)
    (focus (exact belBy))
    intro w31 q_31 hX31
    have sX31:=hX31.size
    have q_lt:=q_31.lt
    have b_31:=b_30.trans (hX31.mono (by omega))
    clear b_30 hX31
    have cell_q:=q_31.cell
    have froz_q:=q_31.frozen
    have lt_q:=q_31.lt
    have hI:=HI.out.below b_31
    have hQ:=q_31
    have z31:=b_31.size
    have HI3:=hid (And.intro hI hQ)
    clear hI hQ b_31 q_31 HI
    go_upto_region 13 with fail
    have e0:w31.cell? ⟨wr.heap.size,0,none⟩=some (.int .i64 3):=cell_q 0
    have e1:w31.cell? ⟨wr.heap.size,1,none⟩=some (.int .i64 (a:Int)):=cell_q 1
    have e2:w31.cell? ⟨wr.heap.size,2,none⟩=some (.int .i64 (b:Int)):=cell_q 2
    have ht:=HI3.out.1.t
    have f1:=ht.cell (ints_get hA1)
    have f2:=ht.cell (ints_get hB1)
    have hB1':=HI3.out.1.b
    have HCC:=HC.out
    have hti:3≠TS:=by decide
    have htg:3≠TG:=by decide
    have hgl:=ht.lt
    have hta:(a:Int) < (st.2.length:Int):=by omega
    have htb:(b:Int) < (st.2.length:Int):=by omega
    have ha0:(0:Int)≤(a:Int):=by omega
    have hb0:(0:Int)≤(b:Int):=by omega
    go_still_tail 13,(by kernel_rfl)
    go_wp2_with fail
    refine Calls.mono (HCC _ (SimpB.heap hB1' rfl)) ?_
    rintro e w5 ⟨rfl,k1,k2⟩
    have HW:=hid (SimJ.stay HI3.out.1 k1 ((StayM.of_below (Below.drew (Below.refl w31.heap.size w31))).trans k2))
    clear k1 k2
    have hT:=HW.out.t
    rw [htl] at hT
    have HT5:=hid hT
    clear hT cell_q froz_q lt_q HCC hB1' ht f1 f2 e0 e1 e2 HC
    go_wp2_with (at_builtin; refine app_int rfl _ _ rfl rfl (HT5.out.alloc _) [P.2] rfl rfl (top_cells _ [_] _) (by omega) ?_)
    intro g' k' w6 h1 h2 h3
    have h2:=grown_alloc h2
    have H6:=hid (HW.out.note (x:=P.2) (by rw [htl]; exact h1) h2 (by (try simp at h3); omega))
    have HL:=hid (show (st.2 ++ [P.2]).length=j + 1 by rw [List.length_append,htl]; rfl)
    clear h1 h2 h3 HT5 HW
    go_wp2
    go_roundw
    case rel=>exact ⟨j + 1,g',k',by omega,by go_num,by rw [HS.out]; exact congrArg (fun q=>Value.slice (some ⟨g',0,none⟩) q k') HL.out.symm,by rw [HS.out]; exact H6.out⟩
    case measure=>simp [intOf]; omega
   ·obtain rfl:k=4:=hk
    have hab:=gate_is34 hgv (.inr rfl)
    dsimp only at hab
    obtain ⟨a,rfl⟩:=Int.eq_ofNat_of_zero_le hab.1.1
    obtain ⟨b,rfl⟩:=Int.eq_ofNat_of_zero_le hab.2.1
    have hA:=hok.at_ hab.1
    have hB:=hok.at_ hab.2
    rw [Int.toNat_natCast] at hA hB
    obtain ⟨hA1,hA2⟩:=hA
    obtain ⟨hB1,hB2⟩:=hB
    have hsp:simpP st.1 st.2 ⟨4,(a:Int),(b:Int)⟩=binG st.1 4 (st.2.getD a 0) (st.2.getD b 0):=rfl
    obtain ⟨ma,hma⟩:=Int.eq_ofNat_of_zero_le (wireB_iff.1 hA2).1
    obtain ⟨mb,hmb⟩:=Int.eq_ofNat_of_zero_le (wireB_iff.1 hB2).1
    have hma2:=(wireB_iff.1 hA2).2
    have hmb2:=(wireB_iff.1 hB2).2
    rw [hma] at hA1 hma2 hsp
    rw [hmb] at hB1 hmb2 hsp
    have HC:=hid (fun X (h:SimpB X mm bp mm st.1)=>iBinary4 (a:=ma) (b:=mb) X h ⟨by omega,hok.g,hok.ap⟩ (by omega) (by omega))
    rw [←hsp] at HC
    have HS:=hid hst
    have HOK:=hid hok
    obtain ⟨P,hP⟩:∃ p,simpP st.1 st.2 ⟨4,(a:Int),(b:Int)⟩=p:=⟨_,rfl⟩
    have hps:simpS st ⟨4,(a:Int),(b:Int)⟩=(P.1,st.2 ++ [P.2]):=by rw [←hP]; rfl
    rw [hP] at HC
    rw [hps] at HS
    have hpw:=(simpP_ok hok hgv).w
    rw [hP] at hpw
    clear hst hok hsp hP hps hgv hA2 hB2 hma hmb
    have b_30:=(Below.refl wr.heap.size wr)
    have s_30:=b_30.size
    go_upto_region 9 with fail
    refine wp_forget1 (w0:=wr) (B:=wr.heap.size) (b0:=wr.heap.size) (t0:=96) (c0:=#[.int .i64 4,.int .i64 (a:Int),.int .i64 (b:Int)]) ?_ ?_ ?_
    (focus exact blkcBy2)
    (focus (exact belBy))
    intro w31 q_31 hX31
    have sX31:=hX31.size
    have q_lt:=q_31.lt
    have b_31:=b_30.trans (hX31.mono (by omega))
    clear b_30 hX31
    have cell_q:=q_31.cell
    have froz_q:=q_31.frozen
    have lt_q:=q_31.lt
    have hI:=HI.out.below b_31
    have hQ:=q_31
    have z31:=b_31.size
    have HI3:=hid (And.intro hI hQ)
    clear hI hQ b_31 q_31 HI
    go_upto_region 13 with fail
    have e0:w31.cell? ⟨wr.heap.size,0,none⟩=some (.int .i64 4):=cell_q 0
    have e1:w31.cell? ⟨wr.heap.size,1,none⟩=some (.int .i64 (a:Int)):=cell_q 1
    have e2:w31.cell? ⟨wr.heap.size,2,none⟩=some (.int .i64 (b:Int)):=cell_q 2
    have ht:=HI3.out.1.t
    have f1:=ht.cell (ints_get hA1)
    have f2:=ht.cell (ints_get hB1)
    have hB1':=HI3.out.1.b
    have HCC:=HC.out
    have hti:3≠TS:=by decide
    have htg:3≠TG:=by decide
    have hgl:=ht.lt
    have hta:(a:Int) < (st.2.length:Int):=by omega
    have htb:(b:Int) < (st.2.length:Int):=by omega
    have ha0:(0:Int)≤(a:Int):=by omega
    have hb0:(0:Int)≤(b:Int):=by omega
    go_still_tail 13,(by kernel_rfl)
    go_wp2_with fail
    refine Calls.mono (HCC _ (SimpB.heap hB1' rfl)) ?_
    rintro e w5 ⟨rfl,k1,k2⟩
    have HW:=hid (SimJ.stay HI3.out.1 k1 ((StayM.of_below (Below.drew (Below.refl w31.heap.size w31))).trans k2))
    clear k1 k2
    have hT:=HW.out.t
    rw [htl] at hT
    have HT5:=hid hT
    clear hT cell_q froz_q lt_q HCC hB1' ht f1 f2 e0 e1 e2 HC
    go_wp2_with (at_builtin; refine app_int rfl _ _ rfl rfl (HT5.out.alloc _) [P.2] rfl rfl (top_cells _ [_] _) (by omega) ?_)
    intro g' k' w6 h1 h2 h3
    have h2:=grown_alloc h2
    have H6:=hid (HW.out.note (x:=P.2) (by rw [htl]; exact h1) h2 (by (try simp at h3); omega))
    have HL:=hid (show (st.2 ++ [P.2]).length=j + 1 by rw [List.length_append,htl]; rfl)
    clear h1 h2 h3 HT5 HW
    go_wp2
    go_roundw
    case rel=>exact ⟨j + 1,g',k',by omega,by go_num,by rw [HS.out]; exact congrArg (fun q=>Value.slice (some ⟨g',0,none⟩) q k') HL.out.symm,by rw [HS.out]; exact H6.out⟩
    case measure=>simp [intOf]; omega
   ·obtain rfl:k=5:=hk
    have hab:=gate_is5 hgv rfl
    dsimp only at hab
    obtain ⟨hab,hb0⟩:=hab
    subst hb0
    obtain ⟨a,rfl⟩:=Int.eq_ofNat_of_zero_le hab.1
    have hA:=hok.at_ hab
    rw [Int.toNat_natCast] at hA
    obtain ⟨hA1,hA2⟩:=hA
    have hsp:simpP st.1 st.2 ⟨5,(a:Int),0⟩=negG st.1 (st.2.getD a 0):=rfl
    obtain ⟨ma,hma⟩:=Int.eq_ofNat_of_zero_le (wireB_iff.1 hA2).1
    have hma2:=(wireB_iff.1 hA2).2
    rw [hma] at hA1 hma2 hsp
    have hta:(a:Int) < (st.2.length:Int):=by omega
    have ha0:(0:Int)≤(a:Int):=by omega
    have HC:=hid (fun X (h:SimpB X mm bp mm st.1)=>iNegation (a:=ma) X h ⟨by omega,hok.g,hok.ap⟩ (by omega))
    rw [←hsp] at HC
    have HS:=hid hst
    have HOK:=hid hok
    obtain ⟨P,hP⟩:∃ p,simpP st.1 st.2 ⟨5,(a:Int),0⟩=p:=⟨_,rfl⟩
    have hps:simpS st ⟨5,(a:Int),0⟩=(P.1,st.2 ++ [P.2]):=by rw [←hP]; rfl
    rw [hP] at HC
    rw [hps] at HS
    have hpw:=(simpP_ok hok hgv).w
    rw [hP] at hpw
    clear hst hok hsp hP hps hgv hA2 hma
    have b_30:=(Below.refl wr.heap.size wr)
    have s_30:=b_30.size
    go_upto_region 9 with fail
    refine wp_forget1 (w0:=wr) (B:=wr.heap.size) (b0:=wr.heap.size) (t0:=96) (c0:=#[.int .i64 5,.int .i64 (a:Int),.int .i64 0]) ?_ ?_ ?_
    (focus exact blkcBy2)
    (focus (exact belBy))
    intro w31 q_31 hX31
    have sX31:=hX31.size
    have q_lt:=q_31.lt
    have b_31:=b_30.trans (hX31.mono (by omega))
    clear b_30 hX31
    have cell_q:=q_31.cell
    have froz_q:=q_31.frozen
    have lt_q:=q_31.lt
    have hI:=HI.out.below b_31
    have z31:=b_31.size
    have HI3:=hid hI
    have hgl:=hI.t.lt
    have f1:=hI.t.cell (ints_get hA1)
    clear hI b_31 q_31 HI
    go_wp2_with fail
    refine Calls.mono (HC.out _ HI3.out.b) ?_
    rintro e w5 ⟨rfl,k1,k2⟩
    have HW:=hid (SimJ.stay HI3.out k1 k2)
    clear k1 k2
    have hT:=HW.out.t
    rw [htl] at hT
    have HT5:=hid hT
    clear hT f1 cell_q froz_q lt_q HC
    go_wp2_with (at_builtin; refine app_int rfl _ _ rfl rfl (HT5.out.alloc _) [P.2] rfl rfl (top_cells _ [_] _) (by omega) ?_)
    intro g' k' w6 h1 h2 h3
    have h2:=grown_alloc h2
    have H6:=hid (HW.out.note (x:=P.2) (by rw [htl]; exact h1) h2 (by (try simp at h3); omega))
    have HL:=hid (show (st.2 ++ [P.2]).length=j + 1 by rw [List.length_append,htl]; rfl)
    clear h1 h2 h3 HT5 HW
    go_wp2
    go_roundw
    case rel=>exact ⟨j + 1,g',k',by omega,by go_num,by rw [HS.out]; exact congrArg (fun q=>Value.slice (some ⟨g',0,none⟩) q k') HL.out.symm,by rw [HS.out]; exact H6.out⟩
    case measure=>simp [intOf]; omega
  ·obtain rfl:j=gs.length:=by omega
   have hcu:simpTo (gs.take gs.length)=simpTo gs:=by rw [List.take_length]
   rw [hcu] at hI ⊢
   obtain ⟨st,hst⟩:∃ c,simpTo gs=c:=⟨_,rfl⟩
   rw [hst] at hI HA HR ⊢
   have HI:=hid hI
   clear hI hok hcu hst HT HV cell_x froz_x lt_x
   have cell_x:=HI.out.x.cell
   have lt_x:=HI.out.x.lt
   obtain ⟨Gx,cx,hbk,hlm,hgr⟩:=HI.out.b.b
   have cell_s:=hbk.cell
   have lt_s:=hbk.lt
   have HO2:=hid (SimO.start HI.out hgr)
   clear hbk hlm hgr
   go_upto_region 19 with fail
   obtain ⟨w7,hw7⟩:∃ z,wr.alloc (.cells #[.slice Gx st.1.length cx,.slice none 0 0] TS)=z:=⟨_,rfl⟩
   obtain ⟨bc,hbc⟩:∃ n,wr.heap.size=n:=⟨_,rfl⟩
   rw [hw7,hbc] at HO2
   rw [hw7,hbc]
   clear hw7 hbc cell_x lt_x cell_s lt_s HI
   have cell_x:=HO2.out.x.cell
   have lt_x:=HO2.out.x.lt
   go_wp2_with fail
   clear cell_x lt_x
   go_loopw [10,74] (fun _ i wr=>∃ (m:Nat) (A:Option Addr) (kO:Nat),m≤os.length∧i=.int .i64 (m:Int)∧SimO w mm bc gt kt G gs.length cg O os.length co st.1 Gx cx st.2 A kO (mapO st.2 (os.take m)) wr) (fun _ i _=>os.length - (intOf i).toNat)
   case atStart=>exact ⟨0,none,0,Nat.zero_le _,rfl,HO2.out⟩
   case round =>
    clear HO2
    obtain ⟨m,A,kO,hm2,rfl,hI⟩:=hrel
    have cell_x:=hI.x.cell
    have lt_x:=hI.x.lt
    by_cases hlt:m < os.length
    ·obtain ⟨x,hx⟩:∃ s,os[m]? = some s:=⟨_,List.getElem?_eq_getElem hlt⟩
     have hw:=wireB_iff.1 (HOV.out x (List.mem_of_getElem? hx))
     obtain ⟨mx,rfl⟩:=Int.eq_ofNat_of_zero_le hw.1
     obtain ⟨hA1,hA2⟩:=HA.out.at_ hw
     rw [Int.toNat_natCast] at hA1
     obtain ⟨v,hv⟩:∃ v,st.2.getD mx 0=v:=⟨_,rfl⟩
     have hmo:mapO st.2 (os.take (m + 1))=mapO st.2 (os.take m) ++ [v]:=by
      obtain ⟨hl,e⟩:=List.getElem?_eq_some_iff.1 hx
      rw [List.take_succ_eq_append_getElem hl,e]
      simp only [mapO,List.map_append,List.map_cons,List.map_nil,Int.toNat_natCast,hv]
     have hml:(mapO st.2 (os.take m)).length=m:=by simp [mapO]; omega
     rw [hv] at hA1
     obtain ⟨bo,oo,rfl,hBo,e0⟩:=int_cells HO.out hI.bl hx
     have hbo:=hI.bl.size
     obtain ⟨outs,houts⟩:∃ c,mapO st.2 (os.take m)=c:=⟨_,rfl⟩
     rw [houts] at hI hmo hml
     have hml2:outs.length≤1000000:=by omega
     have hlt':(m:Int) < (os.length:Int):=by omega
     have htl:=HA.out.tl
     have hmx:(mx:Int) < (st.2.length:Int):=by omega
     have m00:(0:Int)≤(m:Int):=by omega
     have mx0:(0:Int)≤(mx:Int):=by omega
     have f0:=hI.t.cell (ints_get hA1)
     have hgl:=hI.t.lt
     have hbk:=hI.b
     have hlc:=hI.lc
     have cell_y:=hbk.cell
     have froz_y:=hbk.frozen
     have lt_y:=hbk.lt
     have hlb:=hI.lb
     have hou:=hI.o
     have hne1:=hid (own_ne_obj hou hbk (by decide))
     have HI:=hid hI
     have HMO:=hid (And.intro hmo hml)
     have hb1:outs.length + 1≤1000000 + 1:=by omega
     have hb1:outs.length + 1≤1000000:=by omega
     clear hI hx hmo hml houts hw hA1 hA2 hv htl
     go_upto_region 22 with fail
     go_region_law (refine step_int_any (base:=bc) (L:=outs) rfl (.tmp 79) (.tmp 84) rfl (v:=Value.slice A outs.length kO) rfl ?_ ?_ [v] rfl rfl ?_ (by decide) hb1 ?_; (focus (exact ownBy)); (focus (first | omega | (simp; omega))); (focus (exact top_cells _ [_] _)); intro g' c' w5 ho5 hg5 hl5; have kx5:=gr_blk hg5 (b:=bc) (t:=TS) (cs:=#[.slice Gx st.1.length cx,.slice A outs.length kO]) (by exact blkcBy2) hne1.out; have cell_5:=kx5.cell; have froz_5:=kx5.frozen; have lt_5:=kx5.lt)
     all_goals
      have h3':(Value.slice A outs.length kO).ownBlock=some g'∨wr.heap.size≤g':=by
       rcases hl5 with h | h
       ·exact .inl h
       ·refine .inr ?_
        (try simp at h)
        omega
      have HF:=hid (SimO.app HI.out (by exact belBy) ho5 hg5 h3')
      clear ho5 hg5 hl5 kx5 cell_5 froz_5 lt_5 hou hbk h3' f0 e0 cell_x lt_x cell_y froz_y lt_y
      go_wp2
      go_roundw
      case rel=>exact ⟨m + 1,some ⟨g',0,none⟩,c',by omega,by go_num,by rw [HMO.out.1]; exact HF.out⟩
      case measure=>simp [intOf]; omega
    ·obtain rfl:m=os.length:=by omega
     have hcu:mapO st.2 (os.take os.length)=mapO st.2 os:=by rw [List.take_length]
     rw [hcu] at hI
     have hbk:=hI.b
     have hlc:=hI.lc
     have cell_y:=hbk.cell
     have froz_y:=hbk.frozen
     have lt_y:=hbk.lt
     have cell_r:=hI.r.cell
     have froz_r:=hI.r.frozen
     have lt_r:=hI.r.lt
     have hlb:=hI.lb
     have hne:bc≠w.heap.size + 1:=by omega
     have hne2:w.heap.size + 1≠bc:=by omega
     have HI:=hid hI
     have hmo:(mapO st.2 os).length=os.length:=by simp [mapO]
     clear hI hbk hcu hmo
     go_wp2
     ((try simp only [Exit.inBlock,Exit.then]); apply bodyPost_ret0; focus ((try simp only [results,Tryz.results104]); (try go_simp); (try rfl)))
     rw [HR.out]
     exact give_k HI.out.r (own_weak HI.out.g (by omega)) (own_weak HI.out.o (by omega)) HI.out.bl (by omega) (by exact tchBy)
end Go.Proofs.YtihbaieiempjeaaGreat
