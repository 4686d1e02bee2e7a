/- Lemmas of the proof: Base, Mem, By, Plain, Word, IntS, Draw, DrawB, Plain2, Field. -/
import Derived.WalkKit
import Derived.ProofKit
import Derived.OpenShut
import Derived.Carry
import Derived.Handy
import Derived.SizedLaws
import Derived.Deep.Slices
import Derived.Deep.Fields
import Derived.Deep.Draws
import Derived.Lib.SmallJoins
import Derived.Deep.QuietTactic
import Derived.BigQuiet
import Derived.Maps.AppendAt
import Derived.Laws.BitsAllLaws
import Derived.Laws.BitsLemmas
import Derived.Test.YtihbaieiempjeaaGreatRows
import Derived.WalkSpells
import Derived.WalkLawsBesides
import Derived.Outline
import Derived.Laws.OwnMore
import Derived.Laws.MakeOwn
import Derived.OwnWalk
import Derived.Deep.DeepCutAuto
import Derived.ArgAppend
namespace Go.Proofs.YtihbaieiempjeaaGreat
open Go.RowKit Go.ChangeShapes Go.WideShapes
def Blk (w:World) (b:Nat) (t:TypeId) (cs:Array Value):Prop:=w.heap[b]? = some (.cells cs t (0,0))
section
variable {w w':World} {b:Nat} {t:TypeId} {cs:Array Value}
theorem Blk.lt (h:Blk w b t cs):b < w.heap.size:=by
 rcases Nat.lt_or_ge b w.heap.size with h0 | h0
 ·exact h0
 ·unfold Blk at h; rw [Array.getElem?_eq_none h0] at h; cases h
theorem Blk.cell (h:Blk w b t cs) (o:Nat):w.cell? ⟨b,o,none⟩=cs[o]?:=by
 unfold Blk at h
 simp [World.cell?,h]
theorem Blk.frozen (h:Blk w b t cs) (o:Nat):w.frozen? ⟨b,o,none⟩=false:=by
 unfold Blk at h
 simp [World.frozen?,h]
theorem Blk.new (h:b=w.heap.size):Blk (w.alloc (.cells cs t)) b t cs:=by
 subst h
 show (w.heap.push _)[w.heap.size]? = _
 simp
theorem Blk.drew (h:Blk w b t cs):Blk w.drew b t cs:=h
theorem Blk.alloc (h:Blk w b t cs) (o:Obj):Blk (w.alloc o) b t cs:=(Below.heap_alloc w o b h.lt).trans h
theorem Blk.set_ (h:Blk w b t cs) (i:Nat) (u:Value):Blk (w.setCell ⟨b,i,none⟩ u) b t (cs.setIfInBounds i u):=by
 unfold Blk at h ⊢
 simp [World.setCell,Array.getElem?_modify,h]
theorem Blk.far {p:Addr} (hp:b≠p.block) (h:Blk w b t cs) (u:Value):Blk (w.setCell p u) b t cs:=(Below.heap_setCell w p u b hp).trans h
theorem Blk.below {B:Nat} (h:Blk w b t cs) (hb:Below B w w') (hB:b < B):Blk w' b t cs:=(hb.block b hB).trans h
theorem Blk.grown {row:Option Nat} (h:Blk w b t cs) (hg:w.grownBy w' row) (hne:some b≠row):Blk w' b t cs:=(hg.block b h.lt hne).trans h
theorem Blk.past {W:World} (hb:Below W.heap.size W w') (h:Blk W b t cs):Blk w' b t cs:=h.below hb h.lt
theorem bfact {W w1:World} (hb:Below W.heap.size W w1) {b:Nat} {t:TypeId} {cs:Array Value} (h:Blk W b t cs) :
  b < w1.heap.size∧(∀ o,w1.cell? ⟨b,o,none⟩=cs[o]?)∧(∀ o,w1.frozen? ⟨b,o,none⟩=false)∧Blk w1 b t cs :=
 have h1:=h.below hb h.lt
 ⟨h1.lt,h1.cell,h1.frozen,h1⟩
theorem Blk.cast {cs':Array Value} (h:Blk w b t cs) (e:cs=cs'):Blk w b t cs':=e ▸ h
end
theorem below_drewN {B:Nat} {w w':World} {n:Nat} (h:Below B w w'):Below B w (w'.drewN n):=⟨h.os,h.tape,h.output,h.size,h.block⟩
theorem own_drewN {w:World} {base e size n k:Nat} {v:Value} {xs:List Value} (h:w.ownsRow base e size v n xs):(w.drewN k).ownsRow base e size v n xs:=h
theorem bodyPost_ret0 {P:Program} {fn:Func} {R:Ending→World→Prop} {tmps:Array Value} {w:World} {v:Value} (hr:(results fn tmps).run P w=.ok v w) (hR:R (.returned v) w):bodyPost P fn R .ret ⟨tmps,[]⟩ w :=
 bodyPost_ret hr rfl hR
theorem hid {p:Prop} (h:p):Hid p:=h
theorem ret_bool {a b:Bool} (h:a=b):Ending.returned (.bool a)=.returned (.bool b):=by rw [h]
theorem ret_int {k:IntKind} {a b:Int} (h:a=b):Ending.returned (.int k a)=.returned (.int k b):=by rw [h]
section
variable {P:Program} {c:Code} {Q:Exit→Act→World→Prop} {a:Act} {w w0:World} {B b0 b1 b2 b3:Nat} {t0 t1 t2 t3:TypeId} {c0 c1 c2 c3:Array Value}
theorem wp_forget0 (hb:Below B w0 w) (h:∀ W,Below B w0 W→Code.wp P c Q a W):Code.wp P c Q a w:=h w hb
theorem wp_forget1 (h0:Blk w b0 t0 c0) (hb:Below B w0 w) (h:∀ W,Blk W b0 t0 c0→Below B w0 W→Code.wp P c Q a W):Code.wp P c Q a w:=h w h0 hb
theorem wp_forget2 (h0:Blk w b0 t0 c0) (h1:Blk w b1 t1 c1) (hb:Below B w0 w) (h:∀ W,Blk W b0 t0 c0→Blk W b1 t1 c1→Below B w0 W→Code.wp P c Q a W):Code.wp P c Q a w:=h w h0 h1 hb
theorem wp_forget3 (h0:Blk w b0 t0 c0) (h1:Blk w b1 t1 c1) (h2:Blk w b2 t2 c2) (hb:Below B w0 w)
  (h:∀ W,Blk W b0 t0 c0→Blk W b1 t1 c1→Blk W b2 t2 c2→Below B w0 W→Code.wp P c Q a W):Code.wp P c Q a w:=h w h0 h1 h2 hb
end
structure Later (W:World) where
 val:World
 below:Below W.heap.size W val
instance laterNonempty (W:World):Nonempty (Later W):=⟨⟨W,Below.refl _ _⟩⟩
theorem wp_region_later {P:Program} {id:Nat} {Q:Exit→Act→World→Prop} {a:Act} {w:World} {l:List Oper} (hm:P.follows .mixedOrders=true) (hB:Region.lexB .any l.toArray=true)
  (h:wpQuiet P l.toArray (fun w'=>∃ x:Later w,w'=x.val) (fun a'=>∀ w',(∃ x:Later w,w'=x.val)→Q .normal a' w') l a):(Code.region id l.toArray true).wp P Q a w :=
 wp_region_quiet (C:=fun w'=>∃ x:Later w,w'=x.val) hm hB ⟨⟨w.drew,(Below.refl _ _).drew⟩,rfl⟩ (by simpa using h)
theorem Calls.later {P:Program} {f:FuncId} {args:Array Value} {W:World} {x:Later W} {v:Value} (h:Calls P f args x.val fun e w'=>e=.returned v∧Below x.val.heap.size x.val w') :
  Calls P f args x.val fun e w''=>e=.returned v∧∃ y:Later W,w''=y.val :=
 h.mono fun _ w' ⟨he,hb⟩=>⟨he,⟨w',x.below.trans (hb.mono x.below.size)⟩,rfl⟩
theorem Calls.later_same {P:Program} {f:FuncId} {args:Array Value} {W:World} {x:Later W} {v:Value} (h:Calls P f args x.val fun e w'=>e=.returned v∧x.val=w') :
  Calls P f args x.val fun e w''=>e=.returned v∧∃ y:Later W,w''=y.val :=
 h.mono fun _ _ ⟨he,hw⟩=>⟨he,x,hw.symm⟩
def Cells (w:World) (B:Nat) (A:Option Addr) (vs:List Value):Prop :=
 0 < vs.length→∃ b off,A=some ⟨b,off,none⟩∧b < B∧∀ i v,vs[i]? = some v→w.cell? ⟨b,off + i,none⟩=some v
theorem Cells.nil_ {w:World} {B:Nat} {A:Option Addr}:Cells w B A []:=fun h=>absurd h (by simp)
theorem Cells.below {w w':World} {B:Nat} {A:Option Addr} {vs:List Value} (h:Cells w B A vs) (hb:Below B w w'):Cells w' B A vs:=fun h0=>by
 obtain ⟨b,off,e,hB,hc⟩:=h h0
 exact ⟨b,off,e,hB,fun i v hv=>(hb.cell (p:=⟨b,off + i,none⟩) hB).trans (hc i v hv)⟩
theorem Cells.more {w:World} {B B':Nat} {A:Option Addr} {vs:List Value} (h:Cells w B A vs) (hB:B≤B'):Cells w B' A vs:=fun h0=>by
 obtain ⟨b,off,e,hb,hc⟩:=h h0
 exact ⟨b,off,e,by omega,hc⟩
theorem Cells.step {w w':World} {A:Option Addr} {vs:List Value} (h:Cells w w.heap.size A vs) (hb:Below w.heap.size w w'):Cells w' w'.heap.size A vs :=
 (h.below hb).more hb.size
theorem Cells.grown {w w':World} {B:Nat} {A:Option Addr} {vs:List Value} {row:Option Nat} (h:Cells w B A vs) (hg:w.grownBy w' row) (hB:B≤w.heap.size) (hr:∀ g,row=some g→B≤g):Cells w' B A vs:=fun h0=>by
 obtain ⟨b,off,e,hb,hc⟩:=h h0
 exact ⟨b,off,e,hb,fun i v hv=>(World.cell?_of_block (hg.block b (by omega) (fun e=>by have:=hr _ e.symm; omega))).trans (hc i v hv)⟩
theorem Cells.at_ {w:World} {B:Nat} {A:Option Addr} {vs:List Value} (h:Cells w B A vs) {i:Nat} {v:Value} (hv:vs[i]? = some v) :
  ∃ b off,A=some ⟨b,off,none⟩∧b < B∧∀ i v,vs[i]? = some v→w.cell? ⟨b,off + i,none⟩=some v :=
 h (by have:=(List.getElem?_eq_some_iff.1 hv).1; omega)
theorem Cells.of_own {w:World} {base e size n c:Nat} {A:Option Addr} {vs:List Value} (h:w.ownsRow base e size (.slice A n c) n vs):Cells w w.heap.size A vs:=fun h0=>by
 obtain ⟨h1,h2⟩:=h
 rcases h2 with ⟨hv,rfl⟩ | ⟨g,cap,cur,hv,hg,hh,hn,hcap,hsz,htk⟩
 ·simp at h1; subst h1; simp at h0
 ·have hA:A=some ⟨g,0,none⟩:=by injection hv
  subst hA
  have hlt:g < w.heap.size:=by
   rcases Nat.lt_or_ge g w.heap.size with h | h
   ·exact h
   ·rw [Array.getElem?_eq_none h] at hh; cases hh
  refine ⟨g,0,rfl,hlt,fun i v hv=>?_⟩
  have hi:=(List.getElem?_eq_some_iff.1 hv).1
  have e1:w.cell? ⟨g,i,none⟩=cur[i]?:=by simp [World.cell?,hh]
  rw [Nat.zero_add,e1]
  subst htk
  rw [List.getElem?_take] at hv
  split at hv
  ·simpa using hv
  ·cases hv
def ints (xs:List Int):List Value:=xs.map (Value.int .i64)
theorem ints_length (xs:List Int):(ints xs).length=xs.length:=by simp [ints]
theorem ints_get {xs:List Int} {k:Nat} {x:Int} (h:xs[k]? = some x):(ints xs)[k]? = some (.int .i64 x):=by simp [ints,h]
theorem ints_snoc (xs:List Int) (x:Int):ints (xs ++ [x])=ints xs ++ [.int .i64 x]:=by simp [ints]
theorem ints_one (xs:List Int):∀ u∈ints xs,u.oneCell'=true:=by
 intro u hu
 obtain ⟨_,_,rfl⟩:=List.mem_map.1 hu
 rfl
theorem one_one (x:Int):∀ u∈[Value.int .i64 x],u.oneCell'=true:=by
 intro u hu
 simp at hu
 subst hu
 rfl
theorem own_shape {w:World} {base e size n:Nat} {v:Value} {xs:List Value} (h:w.ownsRow base e size v n xs):∃ A c,v=.slice A n c:=by
 rcases h.2 with ⟨rfl,rfl⟩ | ⟨g,cap,_,rfl,_⟩
 ·exact ⟨none,0,rfl⟩
 ·exact ⟨_,_,rfl⟩
theorem one_new (w:World) (u:Value) (t:TypeId):∀ (j:Nat) (x:Value),[u][j]? = some x→(w.alloc (.cells #[u] t)).cell? ((⟨w.heap.size,0,none⟩:Addr).add j)=some x:=by
 intro j x hx
 match j,hx with
 | 0,hx =>
  simp at hx
  subst hx
  simp [Addr.add]
theorem own_below {w w':World} {base e size n:Nat} {v:Value} {xs:List Value} (h:w.ownsRow base e size v n xs) (hb:Below w.heap.size w w'):w'.ownsRow base e size v n xs:=by
 refine ⟨h.1,?_⟩
 rcases h.2 with h2 | ⟨g,cap,cur,hv,hg,hh,r⟩
 ·exact .inl h2
 ·have hlt:g < w.heap.size:=by
   rcases Nat.lt_or_ge g w.heap.size with h0 | h0
   ·exact h0
   ·rw [Array.getElem?_eq_none h0] at hh; cases hh
  exact .inr ⟨g,cap,cur,hv,hg,(hb.block g hlt).trans hh,r⟩
theorem cells_below {w w':World} {B:Nat} {A:Option Addr} {vs:List Value} (h:Cells w B A vs) (hb:Below w.heap.size w w') (hB:B≤w.heap.size):Cells w' B A vs:=h.below (hb.mono hB)
section
variable {P:Program} {f:FuncId} {args:Array Value} {Q:Ending→World→Prop} {X W:World} {b0 b1 b2 b3 t0 t1 t2 t3:Nat} {c0 c1 c2 c3:Array Value}
theorem calls_forget0 (hX:Below W.heap.size W X) (h:∀ X',Below W.heap.size W X'→Calls P f args X' Q):Calls P f args X Q:=h X hX
theorem calls_forget1 (h0:Blk X b0 t0 c0) (hX:Below W.heap.size W X) (h:∀ X',Blk X' b0 t0 c0→Below W.heap.size W X'→Calls P f args X' Q):Calls P f args X Q:=h X h0 hX
theorem calls_forget2 (h0:Blk X b0 t0 c0) (h1:Blk X b1 t1 c1) (hX:Below W.heap.size W X) (h:∀ X',Blk X' b0 t0 c0→Blk X' b1 t1 c1→Below W.heap.size W X'→Calls P f args X' Q):Calls P f args X Q:=h X h0 h1 hX
end
section
variable {H:Type} {enc:TypeId × Value→H} {P:Program}
theorem trodAll_below (hl:laidOutB P=true) {W W':World} (hb:Below W.heap.size W W') :
  ∀ (ts:List TypeId) (vs:List Value) (ds:List (DataW H)) (ps:List MemPlace),ts.all (fun t=>P.readableRec t && decide (t < P.types.size))=true →
   DataW.TrodAll enc P W 0 (fun _=>true) true ts vs ds ps→(∀ x∈ps,x.block < W.heap.size) →
   DataW.TrodAll enc P W' 0 (fun b=>decide (b < W.heap.size)) true ts vs ds ps:=by
 intro ts
 induction ts with
 | nil =>
  intro vs ds ps _ h _
  obtain ⟨rfl,rfl,rfl⟩:=trodAll_nil h
  exact trodAll_mk0
 | cons t ts ih =>
  intro vs ds ps hts h hlt
  simp only [List.all_cons,Bool.and_eq_true,decide_eq_true_eq] at hts
  obtain ⟨v,vs',d,ds',p,q,rfl,rfl,rfl,h0,h1⟩:=trodAll_cons h
  exact trodAll_cons_mk (Below.trod hl hts.1.1 hts.1.2 h0 hb fun x hx=>hlt x (by simp [hx])) (ih vs' ds' q hts.2 h1 fun x hx=>hlt x (by simp [hx]))
theorem law_post {f:Func} {s:ChangeSpec} {tb:TypeId} {W W':World} {args:Array Value} {ds:List (DataW H)} {before:List MemPlace}
  (hvars:s.vars=[]) (hl:laidOutB P=true) (hpar:f.params.toList.all (fun t=>P.readableRec t && decide (t < P.types.size))=true) (hrt:f.resultTypes=#[tb]) (htb:P.underlying tb=some .bool)
  (hW:DataW.Whole enc P f.params.toList s.vars false W args.toList ds [] before)
  (hr:(s.fn H (ds ++ [])).results=[.lit (.bool true)]) (ha:(s.fn H (ds ++ [])).args=ds) (hg:(s.fn H (ds ++ [])).vars=[]) (hb:Below W.heap.size W W') :
  s.post enc P f false true false false W args (.bool true) W':=by
 have hW':=hW
 obtain ⟨p,q,hA,hV,rfl,hfz,hnd⟩:=hW
 rw [hvars] at hV
 obtain ⟨_,rfl⟩:=trodVars_none hV
 have hlt:∀ x∈p,x.block < W.heap.size:=fun x hx=>hW'.lt x (by simp [hx])
 refine ⟨ds,[],_,[],p,[],hW',?_,?_,?_,hb.frame _,fun h=>by cases h⟩
 ·rw [hr,hrt]
  exact trodAll_mk1 (shut_bool htb true)
 ·rw [ha]
  exact trodAll_below hl hb _ _ _ _ hpar hA hlt
 ·rw [hg,hvars]
  rfl
end
open Go.RowKit
theorem own_set {w:World} {base e size n:Nat} {v:Value} {xs:List Value} (h:w.ownsRow base e size v n xs) (p:Addr) (u:Value) (hp:p.block < base):(w.setCell p u).ownsRow base e size v n xs:=by
 refine ⟨h.1,?_⟩
 rcases h.2 with h2 | ⟨g,cap,cur,hv,hg,hh,r⟩
 ·exact .inl h2
 ·exact .inr ⟨g,cap,cur,hv,hg,(Below.heap_setCell w p u g (by omega)).trans hh,r⟩
theorem own_weak {w:World} {base base' e size n:Nat} {v:Value} {xs:List Value} (h:w.ownsRow base e size v n xs) (hle:base'≤base):w.ownsRow base' e size v n xs:=by
 refine ⟨h.1,?_⟩
 rcases h.2 with h2 | ⟨g,cap,cur,hv,hg,r⟩
 ·exact .inl h2
 ·exact .inr ⟨g,cap,cur,hv,Nat.le_trans hle hg,r⟩
theorem grown_alloc {w w':World} {o:Obj} {row:Option Nat} (h:(w.alloc o).grownBy w' row):w.grownBy w' row:=by
 have hs:(w.alloc o).heap.size=w.heap.size + 1:=by simp
 exact ⟨h.os,h.tape,h.output,Nat.le_trans (by omega) h.size,fun i hi hne=>(h.block i (by omega) hne).trans (Below.heap_alloc w o i hi)⟩
theorem below_grown {w w1 w2:World} {row:Option Nat} (h1:Below w.heap.size w w1) (h2:w1.grownBy w2 row):w.grownBy w2 row :=
 ⟨h2.os.trans h1.os,h2.tape.trans h1.tape,h2.output.trans h1.output,Nat.le_trans h1.size h2.size,fun i hi hne=>(h2.block i (Nat.lt_of_lt_of_le hi h1.size) hne).trans (h1.block i hi)⟩
structure Touch (L:List Nat) (w w':World):Prop where
 os:w'.os=w.os
 tape:w'.tape=w.tape
 output:w'.output=w.output
 size:w.heap.size≤w'.heap.size
 block:∀ i,i < w.heap.size→i ∉ L→w'.heap[i]? = w.heap[i]?
section
variable {L:List Nat} {w w':World}
theorem Touch.refl (L:List Nat) (w:World):Touch L w w:=⟨rfl,rfl,rfl,Nat.le_refl _,fun _ _ _=>rfl⟩
theorem Touch.drew (h:Touch L w w'):Touch L w w'.drew:=⟨h.os,h.tape,h.output,h.size,h.block⟩
theorem Touch.alloc (h:Touch L w w') (o:Obj):Touch L w (w'.alloc o) :=
 ⟨h.os,h.tape,h.output,by have:=h.size; simp; omega,fun i hi hn=>(Below.heap_alloc w' o i (Nat.lt_of_lt_of_le hi h.size)).trans (h.block i hi hn)⟩
theorem Touch.set_ (h:Touch L w w') (p:Addr) (u:Value) (hp:p.block∈L):Touch L w (w'.setCell p u) :=
 ⟨h.os,h.tape,h.output,by have:=h.size; simpa using this,fun i hi hn=>(Below.heap_setCell w' p u i (fun e=>hn (e ▸ hp))).trans (h.block i hi hn)⟩
theorem Touch.set_new (h:Touch L w w') (p:Addr) (u:Value) (hp:w.heap.size≤p.block):Touch L w (w'.setCell p u) :=
 ⟨h.os,h.tape,h.output,by have:=h.size; simpa using this,fun i hi hn=>(Below.heap_setCell w' p u i (by omega)).trans (h.block i hi hn)⟩
theorem Touch.below {w0:World} (h:Touch L w w') (h0:Below w0.heap.size w0 w) (hL:∀ i∈L,w0.heap.size≤i):Below w0.heap.size w0 w' :=
 ⟨h.os.trans h0.os,h.tape.trans h0.tape,h.output.trans h0.output,Nat.le_trans h0.size h.size,fun i hi=>(h.block i (Nat.lt_of_lt_of_le hi h0.size) (fun hm=>by have:=hL i hm; omega)).trans (h0.block i hi)⟩
theorem Blk.touch {b:Nat} {t:TypeId} {cs:Array Value} (h:Touch L w w') (k:Blk w b t cs) (hb:b ∉ L):Blk w' b t cs:=(h.block b k.lt hb).trans k
theorem cells_touch {B:Nat} {A:Option Addr} {vs:List Value} (h:Touch L w w') (k:Cells w B A vs) (hB:B≤w.heap.size) (hL:∀ i∈L,B≤i):Cells w' B A vs:=fun h0=>by
 obtain ⟨b,off,e,hb,hc⟩:=k h0
 exact ⟨b,off,e,hb,fun i v hv=>(World.cell?_of_block (h.block b (by omega) (fun hm=>by have:=hL b hm; omega))).trans (hc i v hv)⟩
end
section
variable {P:Program} {c:Code} {Q:Exit→Act→World→Prop} {a:Act} {w w0:World} {L:List Nat} {b0 b1 b2 b3 b4:Nat} {t0 t1 t2 t3 t4:TypeId} {c0 c1 c2 c3 c4:Array Value}
theorem wp_touch1 (h0:Blk w b0 t0 c0) (hb:Touch L w0 w) (h:∀ W,Blk W b0 t0 c0→Touch L w0 W→Code.wp P c Q a W):Code.wp P c Q a w:=h w h0 hb
end
section
variable {P:Program} {f:FuncId} {args:Array Value} {Q:Ending→World→Prop} {w w0:World} {L:List Nat} {b0 b1 b2 b3:Nat} {t0 t1 t2 t3:TypeId} {c0 c1 c2 c3:Array Value}
theorem calls_touch1 (h0:Blk w b0 t0 c0) (hb:Touch L w0 w) (h:∀ W,Blk W b0 t0 c0→Touch L w0 W→Calls P f args W Q):Calls P f args w Q:=h w h0 hb
end
theorem cell_kept {w w':World} {p:Addr} {v:Value} (h:w.cell? p=some v) (hb:Below w.heap.size w w') (hp:p.block < w.heap.size):w'.cell? p=some v:=(hb.cell hp).trans h
theorem Blk.drewN {w:World} {b:Nat} {t:TypeId} {cs:Array Value} {n:Nat} (h:Blk w b t cs):Blk (w.drewN n) b t cs:=h
theorem Touch.drewN {L:List Nat} {w w':World} {n:Nat} (h:Touch L w w'):Touch L w (w'.drewN n):=⟨h.os,h.tape,h.output,h.size,h.block⟩
theorem Touch.trans {L:List Nat} {w w1 w2:World} (h1:Touch L w w1) (h2:Touch L w1 w2):Touch L w w2 :=
 ⟨h2.os.trans h1.os,h2.tape.trans h1.tape,h2.output.trans h1.output,Nat.le_trans h1.size h2.size,fun i hi hn=>(h2.block i (Nat.lt_of_lt_of_le hi h1.size) hn).trans (h1.block i hi hn)⟩
theorem Touch.cell {L:List Nat} {w w':World} (h:Touch L w w') {p:Addr} {v:Value} (hc:w.cell? p=some v) (hp:p.block < w.heap.size) (hn:p.block ∉ L):w'.cell? p=some v:=(World.cell?_of_block (h.block _ hp hn)).trans hc
theorem own_in {w:World} {base e size n:Nat} {v:Value} {xs:List Value} (h:w.ownsRow base e size v n xs):∀ q,v.ownBlock=some q→base≤q∧q < w.heap.size:=fun q hq=>h.lt q hq
section
variable {w w':World} {row:Option Nat}
theorem gr_blk {b t:Nat} {cs:Array Value} (hg:w.grownBy w' row) (k:Blk w b t cs) (hne:∀ q,row=some q→q≠b):Blk w' b t cs:=k.grown hg fun he=>hne b he.symm rfl
theorem gr_own {lo e size n:Nat} {v:Value} {xs:List Value} (hg:w.grownBy w' row) (k:w.ownsRow lo e size v n xs) (hne:∀ q p,row=some q→v.ownBlock=some p→q≠p):w'.ownsRow lo e size v n xs:=by
 refine k.kept hg ?_
 cases hq:v.ownBlock with
 | none=>exact .inl rfl
 | some q=>exact .inr fun he=>hne q q he.symm hq rfl
theorem gr_below {w0:World} {b:Nat} (hg:w.grownBy w' row) (hb:Below b w0 w) (h1:b≤w.heap.size) (hlo:∀ q,row=some q→b≤q):Below b w0 w':=hb.grown hg h1 fun k hk=>hlo k hk
theorem own_touch' {L:List Nat} {base e size n:Nat} {v:Value} {xs:List Value} (h:Touch L w w') (k:w.ownsRow base e size v n xs) (hL:∀ q,v.ownBlock=some q→q ∉ L):w'.ownsRow base e size v n xs:=by
 refine ⟨k.1,?_⟩
 rcases k.2 with h2 | ⟨g,cap,cur,hv,hg,hh,r⟩
 ·exact .inl h2
 ·have hlt:g < w.heap.size:=by
   rcases Nat.lt_or_ge g w.heap.size with h0 | h0
   ·exact h0
   ·rw [Array.getElem?_eq_none h0] at hh; cases hh
  exact .inr ⟨g,cap,cur,hv,hg,(h.block g hlt (hL g (by rw [hv]; rfl))).trans hh,r⟩
end
theorem wpList_appi {P:Program} {w:World} {ops:Array Oper} {rest:List Oper} {o:Oper} {a:Act} {Q:Exit→Act→World→Prop} (hgd:o.guard=none) (s x:Operand) (t:TypeId)
  (ho:o.op=.call { callee:=.builtin .append,args:=#[s,x],argTypes:=#[t,t] })
  (base e:Nat) (z:Value) (size bytes:Nat) (ht:P.underlying t=some (.slice e)) (hinfo:(P.info? e).map (fun i=>(i.zero,i.size,i.bytes))=some (some z,size,bytes)) (hzs:z.cells.size=size) (hsz:0 < size)
  (v:Value) (n:Nat) (xs:List Value) (hs:a.eval s=v) (hown:w.ownsRow base e size v n xs)
  (ad:Addr) (m c:Nat) (news:List Value) (hx:a.eval x=.slice (some ad) m c) (hl:news.length=m * size) (hnews:∀ j u,news[j]? = some u→w.cell? (ad.add j)=some u) (h1:∀ u∈news,u.oneCell'=true)
  (hbound:n + m≤1000000000) (hbytes:bytes≤1000) (hbase:base≤w.heap.size)
  (h:∀ A c w',w'.ownsRow base e size (.slice A (n + m) c) (n + m) (xs ++ news)→w.grownBy w' v.ownBlock→(∀ q,(Value.slice A (n + m) c).ownBlock=some q→v.ownBlock=some q∨q=w.heap.size)→wpList P ops Q rest (a.put o.dst (.slice A (n + m) c)) w'):wpList P ops Q (o :: rest) a w:=by
 obtain ⟨i,hi,hz0,hz1,hz2⟩:=info_parts hinfo
 have hmul:(n + m) * bytes≤1000000000 * 1000:=Nat.mul_le_mul hbound hbytes
 refine wpList_append_own_at w hgd s x t ho base e i z size bytes ht hi hz0 hz1 hz2 hzs hsz v n xs hs hown ad m c news hx hl hnews h1 (by unfold maxLen; omega) (by omega) hbase ?_
 intro v' w' hown' hg' _ hl'
 obtain ⟨A,c',rfl⟩:=own_shape hown'
 exact h A c' w' hown' hg' fun q hq=>by
  rcases hl' with h0 | h0
  ·exact .inl (h0.symm.trans hq)
  ·exact .inr (by rw [h0] at hq; injection hq with hq; exact hq.symm)
theorem own_here {b n c:Nat}:∀ q,(Value.slice (some ⟨b,0,none⟩) n c).ownBlock=some q→q=b:=fun q hq=>by
 have:some b=some q:=hq
 injection this with h
 exact h.symm
theorem own_at {w:World} {base e size n c:Nat} {A:Option Addr} {xs:List Value} (h:w.ownsRow base e size (.slice A n c) n xs) (hn:0 < n) :
  ∃ g,A=some ⟨g,0,none⟩∧base≤g∧g < w.heap.size∧∀ i v,xs[i]? = some v→w.cell? ⟨g,i,none⟩=some v:=by
 obtain ⟨h1,h2⟩:=h
 rcases h2 with ⟨hv,rfl⟩ | ⟨g,cap,cur,hv,hg,hh,hn',hcap,hsz,htk⟩
 ·injection hv with _ h3 _
  omega
 ·have hA:A=some ⟨g,0,none⟩:=by injection hv
  have hlt:g < w.heap.size:=by
   rcases Nat.lt_or_ge g w.heap.size with h | h
   ·exact h
   ·rw [Array.getElem?_eq_none h] at hh; cases hh
  refine ⟨g,hA,hg,hlt,fun i v hv=>?_⟩
  have e1:w.cell? ⟨g,i,none⟩=cur[i]?:=by simp [World.cell?,hh]
  rw [e1]
  subst htk
  rw [List.getElem?_take] at hv
  split at hv
  ·simpa using hv
  ·cases hv
theorem cell_far {w:World} {p q:Addr} {u v:Value} (h:w.cell? p=some v) (hq:q.block≠p.block):(w.setCell q u).cell? p=some v:=(World.cell?_of_block (Below.heap_setCell w q u p.block (fun e=>hq e.symm))).trans h
theorem cell_drew {w:World} {p:Addr} {v:Value} (h:w.cell? p=some v):w.drew.cell? p=some v:=h
theorem cell_alloc {w:World} {p:Addr} {v:Value} {o:Obj} (h:w.cell? p=some v) (hp:p.block < w.heap.size):(w.alloc o).cell? p=some v:=(World.cell?_of_block (Below.heap_alloc w o _ hp)).trans h
theorem own_lit {w:World} {base e size b:Nat} (cs:Array Value) (n:Nat) (h:b=w.heap.size) (hb:base≤b) (hm:n≤maxLen) (hs:cs.size=n * size) :
  (w.alloc (.cells cs e)).ownsRow base e size (.slice (some ⟨b,0,none⟩) n n) n cs.toList:=by
 subst h
 exact World.ownsRow_lit w cs n hb hm hs
theorem many_new (w:World) (cs:List Value) (t:TypeId):∀ (j:Nat) (x:Value),cs[j]? = some x→(w.alloc (.cells cs.toArray t)).cell? ((⟨w.heap.size,0,none⟩:Addr).add j)=some x:=by
 intro j x hx
 have hb:Blk (w.alloc (.cells cs.toArray t)) w.heap.size t cs.toArray:=Blk.new rfl
 have h2:=hb.cell j
 have e:(⟨w.heap.size,0,none⟩:Addr).add j=⟨w.heap.size,j,none⟩:=by simp [Addr.add]; omega
 rw [e,h2]
 simpa using hx
open Go.RowKit
theorem belBy {b:Nat} {w w':World} (h:Below b w w':=by repeat (first | (with_reducible exact Below.refl _ _) | (with_reducible refine Below.trans ?_ (Below.mono (by assumption) (by first | omega | (simp; done) | (simp; omega) | (simp [*]; done)))) | (with_reducible refine Below.alloc ?_ (by first | omega | (simp; done) | (simp; omega) | (simp [*]; done)) _) | (with_reducible refine Below.setCell ?_ (by first | omega | (simp; done) | (simp; omega) | (simp [*]; done)) _) | (with_reducible refine Below.drew ?_) | (with_reducible refine below_drewN ?_))):Below b w w':=h
theorem tchBy {L:List Nat} {w w':World} (h:Touch L w w':=by repeat (first | (with_reducible exact Touch.refl _ _) | (with_reducible assumption) | (with_reducible apply Touch.drew) | (with_reducible apply Touch.drewN) | (with_reducible apply Touch.alloc) | (with_reducible refine Touch.set_ ?_ _ _ (by simp; done)) | (with_reducible refine Touch.set_new ?_ _ _ (by first | omega | (simp; omega) | (dsimp only; omega))))):Touch L w w':=h
theorem ownBy {w:World} {base e size n:Nat} {v:Value} {xs:List Value} (h:w.ownsRow base e size v n xs:=by repeat (first | (with_reducible assumption) | (with_reducible apply World.ownsRow.drew) | (with_reducible apply own_drewN) | (with_reducible apply World.ownsRow.alloc) | (with_reducible refine own_set ?_ _ _ (by first | omega | (simp; omega) | (dsimp only; omega))))):w.ownsRow base e size v n xs:=h
theorem blkBy {w:World} {b t:Nat} {cs:Array Value} (h:Blk w b t cs:=by repeat (first | (with_reducible assumption) | (with_reducible apply Blk.drew) | (with_reducible apply Blk.drewN) | (with_reducible apply Blk.new; first | rfl | (simp; done)) | (with_reducible apply Blk.alloc) | (with_reducible apply Blk.set_) | (with_reducible apply Blk.past; focus assumption) | (with_reducible apply Blk.far; focus (first | (simp; done) | (simp; omega) | (dsimp only; omega))))):Blk w b t cs:=h
theorem blkcBy {w:World} {b t:Nat} {cs:Array Value} (h:Blk w b t cs:=by (first | ((repeat (first | (with_reducible assumption) | (with_reducible apply Blk.drew) | (with_reducible apply Blk.drewN) | (with_reducible apply Blk.new; first | rfl | (simp; done)) | (with_reducible apply Blk.alloc) | (with_reducible apply Blk.set_) | (with_reducible apply Blk.past; focus assumption) | (with_reducible apply Blk.far; focus (first | (simp; done) | (simp; omega) | (dsimp only; omega))))); done) | (apply Blk.cast; (case h=>(repeat (first | (with_reducible assumption) | (with_reducible apply Blk.drew) | (with_reducible apply Blk.drewN) | (with_reducible apply Blk.new; first | rfl | (simp; done)) | (with_reducible apply Blk.alloc) | (with_reducible apply Blk.set_) | (with_reducible apply Blk.past; focus assumption) | (with_reducible apply Blk.far; focus (first | (simp; done) | (simp; omega) | (dsimp only; omega)))))); (case e=>rfl)))):Blk w b t cs:=h
open Go.RowKit
def inB (n lo hi:Int):Bool:=decide (lo≤n∧n≤hi)
theorem inB_iff {n lo hi:Int}:inB n lo hi=true↔lo≤n∧n≤hi:=by simp [inB]
theorem inB_no {n lo hi:Int}:inB n lo hi=false↔¬ (lo≤n∧n≤hi):=by simp [inB]
def isWordB (n:Int):Bool:=inB n 0 4294967295
theorem isWordB_iff {n:Int}:isWordB n=true↔0≤n∧n≤4294967295:=inB_iff
theorem ofInt_nat (a:Nat) (ha:a < 9223372036854775808):(BitVec.ofInt 64 (a:Int)).toNat=a:=by
 rw [BitVec.ofInt_natCast,BitVec.toNat_ofNat]; exact Nat.mod_eq_of_lt (by omega)
theorem xor_nat (a b:Nat) (ha:a < 9223372036854775808) (hb:b < 9223372036854775808):bits .xor .i64 (a:Int) (b:Int)=((a ^^^ b:Nat):Int):=by
 have hx:a ^^^ b < 2 ^ 63:=Nat.xor_lt_two_pow (by omega) (by omega)
 show IntKind.i64.wrap ((BitVec.ofInt 64 (a:Int) ^^^ BitVec.ofInt 64 (b:Int)).toNat:Int)=_
 rw [BitVec.toNat_xor,ofInt_nat a ha,ofInt_nat b hb,IntKind.wrap_i64]
 omega
theorem and_nat (a b:Nat) (ha:a < 9223372036854775808) (hb:b < 9223372036854775808):bits .and .i64 (a:Int) (b:Int)=((a &&& b:Nat):Int):=by
 have hx:a &&& b < 2 ^ 63:=Nat.and_lt_two_pow _ (by omega)
 show IntKind.i64.wrap ((BitVec.ofInt 64 (a:Int) &&& BitVec.ofInt 64 (b:Int)).toNat:Int)=_
 rw [BitVec.toNat_and,ofInt_nat a ha,ofInt_nat b hb,IntKind.wrap_i64]
 omega
theorem or_nat (a b:Nat) (ha:a < 9223372036854775808) (hb:b < 9223372036854775808):bits .or .i64 (a:Int) (b:Int)=((a ||| b:Nat):Int):=by
 have hx:a ||| b < 2 ^ 63:=Nat.or_lt_two_pow (by omega) (by omega)
 show IntKind.i64.wrap ((BitVec.ofInt 64 (a:Int) ||| BitVec.ofInt 64 (b:Int)).toNat:Int)=_
 rw [BitVec.toNat_or,ofInt_nat a ha,ofInt_nat b hb,IntKind.wrap_i64]
 omega
def mixS (x:Nat):Nat:=(x ^^^ x / 65536) * 73244475 % 4294967296
def mixN (x:Nat):Nat:=mixS (mixS x) ^^^ mixS (mixS x) / 65536
def mixI (n:Int):Int:=if isWordB n then (mixN n.toNat:Int) else 0
theorem mixS_lt (x:Nat):mixS x < 4294967296:=by unfold mixS; omega
theorem xor_lt32 {a b:Nat} (ha:a < 4294967296) (hb:b < 4294967296):a ^^^ b < 4294967296:=by
 have h:a ^^^ b < 2 ^ 32:=Nat.xor_lt_two_pow (by omega) (by omega)
 omega
theorem mixN_lt (x:Nat):mixN x < 4294967296:=by
 unfold mixN
 have:=mixS_lt (mixS x)
 exact xor_lt32 this (by omega)
theorem and_mask (a:Nat):a &&& 4294967295=a % 4294967296:=Nat.and_two_pow_sub_one_eq_mod a 32
theorem mixS_spell (x:Nat) (hx:x < 4294967296) :
  bits .and .i64 (wrap64 (bits .xor .i64 (x:Int) ((x:Int) / 65536) * 73244475)) 4294967295=(mixS x:Int):=by
 have e1:((x:Int) / 65536)=((x / 65536:Nat):Int):=by omega
 have hl:x ^^^ x / 65536 < 4294967296:=xor_lt32 hx (by omega)
 rw [e1,xor_nat x (x / 65536) (by omega) (by omega)]
 unfold mixS
 generalize x ^^^ x / 65536=y at *
 have e2:wrap64 ((y:Int) * 73244475)=((y * 73244475:Nat):Int):=by
  rw [IntWalk.wrap64_in _ (by omega)]
  omega
 rw [e2,show (4294967295:Int)=((4294967295:Nat):Int) from rfl,and_nat _ _ (by omega) (by omega),and_mask]
theorem mix_spell (n:Int) (h0:0≤n) (h1:n≤4294967295) (a b:Int)
  (ha:a=bits .and .i64 (wrap64 (bits .xor .i64 n (n / 65536) * 73244475)) 4294967295)
  (hb:b=bits .and .i64 (wrap64 (bits .xor .i64 a (a / 65536) * 73244475)) 4294967295) :
  bits .xor .i64 b (b / 65536)=mixI n:=by
 obtain ⟨x,rfl⟩:=Int.eq_ofNat_of_zero_le h0
 rw [mixS_spell x (by omega)] at ha
 subst ha
 rw [mixS_spell _ (mixS_lt _)] at hb
 subst hb
 have hl:=mixS_lt (mixS x)
 have e1:((mixS (mixS x):Nat):Int) / 65536=((mixS (mixS x) / 65536:Nat):Int):=by omega
 rw [e1,xor_nat _ _ (by omega) (by omega)]
 unfold mixI
 rw [if_pos (isWordB_iff.2 ⟨h0,h1⟩)]
 rfl
theorem mixI_no {n:Int} (h:isWordB n=false):mixI n=0:=by unfold mixI; rw [h]; rfl
theorem mixI_word (n:Int):isWordB (mixI n)=true:=by
 unfold mixI
 split
 ·have:=mixN_lt n.toNat
  exact isWordB_iff.2 (by omega)
 ·exact isWordB_iff.2 (by omega)
def keyedI (k a b:Int):Int :=
 if isWordB k && isWordB a && isWordB b then mixI (bits .xor .i64 (mixI (bits .xor .i64 (mixI k) a)) b) else 0
theorem keyedI_word (k a b:Int):isWordB (keyedI k a b)=true:=by
 unfold keyedI
 split
 ·exact mixI_word _
 ·exact isWordB_iff.2 (by omega)
theorem keyedI_range (k a b:Int):0≤keyedI k a b∧keyedI k a b≤4294967295:=isWordB_iff.1 (keyedI_word k a b)
def pick (b:Bool) (x y:Int):Int:=if b then x else y
@[simp] theorem pick_yes (x y:Int):pick true x y=x:=rfl
@[simp] theorem pick_no (x y:Int):pick false x y=y:=rfl
theorem take_snoc {xs:List Int} {k:Nat} {x:Int} (h:xs[k]? = some x):xs.take (k + 1)=xs.take k ++ [x]:=by
 rw [List.take_add_one,h]
 rfl
open Go.RowKit
theorem iWithin (n lo hi:Int) (w:World) :
  Calls Tryz.prog 56 #[.int .i64 n,.int .i64 lo,.int .i64 hi] w fun e w'=>e=.returned (.bool (inB n lo hi))∧w=w':=by
 by_cases h1:lo≤n <;> by_cases h2:n≤hi
 all_goals
  go_enter Tryz.func56,Tryz.ntmps56
  go_wp2
  go_ret
  exact ⟨by simp [inB,h1,h2],rfl⟩
theorem sWithin (n lo hi:Int) (w:World) :
  Calls Tryz.prog 123 #[.int .i64 n,.int .i64 lo,.int .i64 hi] w fun e w'=>e=.returned (.bool (inB n lo hi))∧w=w':=by
 by_cases h1:lo≤n <;> by_cases h2:n≤hi
 all_goals
  go_enter Tryz.func123,Tryz.ntmps123
  go_wp2
  go_ret
  exact ⟨by simp [inB,h1,h2],rfl⟩
theorem iIsWord (n:Int) (w:World) :
  Calls Tryz.prog 112 #[.int .i64 n] w fun e w'=>e=.returned (.bool (isWordB n))∧w=w':=by
 go_enter Tryz.func112,Tryz.ntmps112
 go_wp2_with (go_at_call 56; refine (iWithin _ _ _ _).mono ?_; rintro e w' ⟨rfl,rfl⟩)
 go_ret
 exact ⟨rfl,rfl⟩
theorem iMix (n:Int) (w:World) :
  Calls Tryz.prog 113 #[.int .i64 n] w fun e w'=>e=.returned (.int .i64 (mixI n))∧w=w':=by
 cases h:isWordB n
 ·go_enter Tryz.func113,Tryz.ntmps113
  go_wp2_with (go_at_call 112; refine (iIsWord _ _).mono ?_; rintro e w' ⟨rfl,rfl⟩)
  go_ret
  exact ⟨by rw [mixI_no h]; rfl,rfl⟩
 ·have h0:=(isWordB_iff.1 h).1
  have h1:=(isWordB_iff.1 h).2
  go_enter Tryz.func113,Tryz.ntmps113
  go_wp2_with (go_at_call 112; refine (iIsWord _ _).mono ?_; rintro e w' ⟨rfl,rfl⟩)
  refine wp_loop_rounds 3 ?_
  rw [rounds_succ]
  go_wp2
  rw [rounds_succ]
  go_wp2
  rw [rounds_succ]
  go_wp2
  go_ret
  exact ⟨ret_int (mix_spell n h0 h1 _ _ rfl rfl),rfl⟩
theorem iKeyed (k a b:Int) (w:World) :
  Calls Tryz.prog 57 #[.int .i64 k,.int .i64 a,.int .i64 b] w fun e w'=>e=.returned (.int .i64 (keyedI k a b))∧w=w':=by
 have hk:keyedI k a b=if isWordB k && isWordB a && isWordB b then mixI (bits .xor .i64 (mixI (bits .xor .i64 (mixI k) a)) b) else 0:=rfl
 have HK:=hid hk
 clear hk
 cases h1:isWordB k <;> cases h2:isWordB a <;> cases h3:isWordB b
 all_goals
  go_enter Tryz.func57,Tryz.ntmps57
  go_wp2_with (first | (go_at_call 112; refine (iIsWord _ _).mono ?_; rintro e w' ⟨rfl,rfl⟩) | (go_at_call 113; refine (iMix _ _).mono ?_; rintro e w' ⟨rfl,rfl⟩))
  go_ret
  exact ⟨ret_int (by rw [HK.out,h1,h2,h3]; rfl),rfl⟩
open Go.RowKit
theorem infoInt:(Tryz.prog.info? 3).map (fun i=>(i.zero,i.size,i.bytes))=some (some (.int .i64 0),1,8):=by kernel_rfl
def GivesInts (w:World) (xs:List Int) (e:Ending) (w':World):Prop :=
 ∃ A c,e=.returned (.slice A xs.length c)∧w'.ownsRow w.heap.size 3 1 (.slice A xs.length c) xs.length (ints xs)∧Below w.heap.size w w'
open Go.RowKit
def bytesV (xs:List Int):List Value:=xs.map (Value.int .u8)
theorem bytesV_get {xs:List Int} {k:Nat} {x:Int} (h:xs[k]? = some x):(bytesV xs)[k]? = some (.int .u8 x):=by simp [bytesV,h]
theorem and255 (a:Int):0≤bits .and .i64 a 255∧bits .and .i64 a 255≤255:=by
 have e:bits .and .i64 a 255=IntKind.i64.wrap ((BitVec.ofInt 64 a &&& BitVec.ofInt 64 255).toNat:Int):=rfl
 have h:(BitVec.ofInt 64 a &&& BitVec.ofInt 64 255).toNat≤255:=by
  rw [BitVec.toNat_and]
  have e2:(BitVec.ofInt 64 255).toNat=255:=by decide
  rw [e2]
  exact Nat.and_le_right
 rw [e,IntKind.wrap_i64]
 omega
def Cur (w:World) (p:Nat) (A:Option Addr) (n c:Nat):Prop :=
 ∃ i h:Int,Blk w p 105 #[.slice A n c,.int .i64 i,.int .i64 h]∧0≤i∧i≤n
structure Bytes (w:World) (p:Nat) (A:Option Addr) (bs:List Int):Prop where
 cells:Cells w p A (bytesV bs)
 small:∀ x∈bs,0≤x∧x≤255
 len:bs.length≤9223372036854775807
set_option maxHeartbeats 800000 in
theorem byte_any (p:Nat) (A:Option Addr) (c:Nat) (bs:List Int) (w:World) (hc:Cur w p A bs.length c) (hb:Bytes w p A bs) :
  Calls Tryz.prog 81 #[.pointer (some ⟨p,0,none⟩)] w fun e w'=>∃ r,e=.returned (.int .i64 r)∧0≤r∧r≤255∧Cur w' p A bs.length c∧Touch [p] w w':=by
 obtain ⟨i,h,k0,hi0,hi1⟩:=hc
 have c0:=k0.cell
 have f0:=k0.frozen
 have z0:=k0.lt
 have hl:=hb.len
 have HB:=hid hb
 clear hb
 go_enter Tryz.func81,Tryz.ntmps81
 go_wp2_with fail
 apply wp_touch1 (w0:=w) (L:=[p]) (b0:=p)
 case h0=>exact blkBy
 case hb=>exact tchBy
 case h =>
 intro W k1 hT
 obtain ⟨h2,k2⟩:∃ h2,Blk W p 105 #[.slice A bs.length c,.int .i64 i,.int .i64 h2]:=⟨_,k1⟩
 have sT:=hT.size
 have c2:=k2.cell
 have f2:=k2.frozen
 have z2:=k2.lt
 clear k1 c0 f0
 go_cut [3] (fun v3 wx=>∃ x,0≤x∧x≤255∧v3=.int .i64 x∧∃ n,wx=W.drewN n)
 case first =>
  go_quiet (fail)
  go_wp2_with fail
  go_meet
  exact ⟨_,(and255 _).1,(and255 _).2,rfl,nq,rfl⟩
 case rest =>
  obtain ⟨x,hx0,hx1,rfl,nq,rfl⟩:=hcut
  obtain ⟨j,rfl⟩:=Int.eq_ofNat_of_zero_le hi0
  by_cases hlt:j < bs.length
  ·obtain ⟨y,hy⟩:∃ y,bs[j]? = some y:=⟨_,List.getElem?_eq_getElem hlt⟩
   obtain ⟨hy0,hy1⟩:=HB.out.small y (List.mem_of_getElem? hy)
   obtain ⟨b,off,rfl,hB,hcl⟩:=HB.out.cells (by simp [bytesV]; omega)
   have hcell:W.cell? ⟨b,off + j,none⟩=some (.int .u8 y):=hT.cell (hcl j _ (bytesV_get hy)) (by dsimp only; omega) (by simp; omega)
   have hlt':(j:Int) < (bs.length:Int):=by omega
   clear hcl hy
   go_wp2_with fail
   go_quiet (fail)
   go_wp2_with fail
   go_quiet (fail)
   go_wp2_with fail
   go_ret
   exact ⟨_,rfl,(and255 _).1,(and255 _).2,⟨_,h2,by exact blkcBy,by omega,by omega⟩,by exact tchBy⟩
  ·go_wp2_with fail
   go_quiet (fail)
   go_wp2_with fail
   go_ret
   exact ⟨_,rfl,hx0,hx1,⟨_,h2,by exact blkcBy,by omega,by omega⟩,by exact tchBy⟩
theorem Bytes.touch {w w':World} {p:Nat} {A:Option Addr} {bs:List Int} (h:Bytes w p A bs) (hT:Touch [p] w w') (hp:p≤w.heap.size):Bytes w' p A bs :=
 ⟨cells_touch hT h.cells hp (by simp),h.small,h.len⟩
theorem Bytes.step {w w':World} {p:Nat} {A:Option Addr} {bs:List Int} (h:Bytes w p A bs) (hb:Below p w w'):Bytes w' p A bs:=⟨h.cells.below hb,h.small,h.len⟩
theorem Cur.lt {w:World} {p n c:Nat} {A:Option Addr} (h:Cur w p A n c):p < w.heap.size:=by
 obtain ⟨i,x,k,_,_⟩:=h
 exact k.lt
theorem emod_lt (x n:Int) (hn:1≤n):0≤x % n∧x % n < n:=⟨Int.emod_nonneg _ (by omega),Int.emod_lt_of_pos _ (by omega)⟩
set_option maxHeartbeats 800000 in
theorem below_any (n:Int) (p:Nat) (A:Option Addr) (c:Nat) (bs:List Int) (w:World) (hn:1≤n) (hn2:n≤1000000000000) (hc:Cur w p A bs.length c) (hb:Bytes w p A bs) :
  Calls Tryz.prog 40 #[.pointer (some ⟨p,0,none⟩),.int .i64 n] w fun e w'=>∃ r,e=.returned (.int .i64 r)∧0≤r∧r < n∧Cur w' p A bs.length c∧Touch [p] w w':=by
 have HB:=hid hb
 have HC:=hid hc
 have hp:=hc.lt
 clear hb hc
 by_cases h1:n≤256
 ·go_enter Tryz.func40,Tryz.ntmps40
  go_wp2_with fail
  refine (byte_any _ _ _ _ _ HC.out HB.out).mono ?_
  rintro e w1 ⟨r,rfl,hr0,hr1,hc1,hT1⟩
  go_wp2
  go_ret
  exact ⟨_,rfl,(emod_lt _ _ hn).1,(emod_lt _ _ hn).2,hc1,hT1⟩
 ·go_enter Tryz.func40,Tryz.ntmps40
  go_wp2_with fail
  refine (byte_any _ _ _ _ _ HC.out HB.out).mono ?_
  rintro e w1 ⟨r1,rfl,hr10,hr11,hc1,hT1⟩
  have hb1:=HB.out.touch hT1 (by omega)
  have z1:=hT1.size
  go_wp2_with fail
  refine (byte_any _ _ _ _ _ hc1 hb1).mono ?_
  rintro e w2 ⟨r2,rfl,hr20,hr21,hc2,hT2⟩
  have hb2:=hb1.touch hT2 (by omega)
  have z2:=hT2.size
  go_wp2_with fail
  refine (byte_any _ _ _ _ _ hc2 hb2).mono ?_
  rintro e w3 ⟨r3,rfl,hr30,hr31,hc3,hT3⟩
  have hb3:=hb2.touch hT3 (by omega)
  have z3:=hT3.size
  go_wp2_with fail
  refine (byte_any _ _ _ _ _ hc3 hb3).mono ?_
  rintro e w4 ⟨r4,rfl,hr40,hr41,hc4,hT4⟩
  have hT:=((hT1.trans hT2).trans hT3).trans hT4
  clear hT1 hT2 hT3 hT4 hc1 hc2 hc3 hb1 hb2 hb3
  go_wp2
  go_ret
  exact ⟨_,rfl,(emod_lt _ _ hn).1,(emod_lt _ _ hn).2,hc4,hT⟩
set_option maxRecDepth 100000 in
set_option maxHeartbeats 800000 in
theorem new_any (A:Option Addr) (c:Nat) (bs:List Int) (w:World) (hb:Bytes w w.heap.size A bs) :
  Calls Tryz.prog 36 #[.slice A bs.length c] w fun e w'=>e=.returned (.pointer (some ⟨w.heap.size,0,none⟩))∧Cur w' w.heap.size A bs.length c∧Below w.heap.size w w':=by
 have HB:=hid hb
 have hl:=hb.len
 clear hb
 go_enter Tryz.func36,Tryz.ntmps36
 go_wp2
 go_loop [3,4] (fun h i=>∃ (k:Nat) (x:Int),k≤bs.length∧i=.int .i64 k∧h=.int .i64 x) (fun _ i=>bs.length - (intOf i).toNat)
 case atStart=>exact ⟨0,_,Nat.zero_le _,rfl,rfl⟩
 case round =>
  obtain ⟨k,x,hk,rfl,rfl⟩:=hrel
  by_cases hlt:k < bs.length∧k < 4000
  ·obtain ⟨hlt,hlt2⟩:=hlt
   have hlt3:(k:Int) < 4000:=by omega
   clear hlt2
   obtain ⟨y,hy⟩:∃ y,bs[k]? = some y:=⟨_,List.getElem?_eq_getElem hlt⟩
   obtain ⟨hy0,hy1⟩:=HB.out.small y (List.mem_of_getElem? hy)
   obtain ⟨b,off,rfl,hB,hcl⟩:=HB.out.cells (by simp [bytesV]; omega)
   have hcell:w.cell? ⟨b,off + k,none⟩=some (.int .u8 y):=hcl k _ (bytesV_get hy)
   have hk':(k:Int) < (bs.length:Int):=by omega
   clear hcl hy
   go_wp2
   go_round
   case rel=>exact ⟨k + 1,_,by omega,by go_num,rfl⟩
   case measure=>simp [intOf]; omega
  ·have hlt':bs.length≤k∨4000≤k:=by omega
   clear hlt
   rcases hlt' with hlt | hlt
   ·obtain rfl:k=bs.length:=by omega
    go_wp2
    go_ret
    exact ⟨rfl,⟨_,_,by exact blkBy,by omega,by omega⟩,by exact belBy⟩
   ·have hlt3:(4000:Int)≤(k:Int):=by omega
    clear hlt
    by_cases hx:k < bs.length
    ·go_wp2
     go_ret
     exact ⟨rfl,⟨_,_,by exact blkBy,by omega,by omega⟩,by exact belBy⟩
    ·obtain rfl:k=bs.length:=by omega
     go_wp2
     go_ret
     exact ⟨rfl,⟨_,_,by exact blkBy,by omega,by omega⟩,by exact belBy⟩
theorem Cur.grown {w w':World} {p n c:Nat} {A:Option Addr} {row:Option Nat} (h:Cur w p A n c) (hg:w.grownBy w' row) (hne:∀ q,row=some q→q≠p):Cur w' p A n c:=by
 obtain ⟨i,x,k,h0,h1⟩:=h
 exact ⟨i,x,gr_blk hg k hne,h0,h1⟩
theorem Cur.below {w w':World} {p n c:Nat} {A:Option Addr} (h:Cur w p A n c) (hb:Below w.heap.size w w'):Cur w' p A n c:=by
 obtain ⟨i,x,k,h0,h1⟩:=h
 exact ⟨i,x,Blk.past hb k,h0,h1⟩
theorem Cur.alloc {w:World} {p n c:Nat} {A:Option Addr} (h:Cur w p A n c) (o:Obj):Cur (w.alloc o) p A n c:=by
 obtain ⟨i,x,k,h0,h1⟩:=h
 exact ⟨i,x,k.alloc o,h0,h1⟩
theorem mem_snoc {P:Int→Prop} {xs:List Int} {r:Int} (h:∀ x∈xs,P x) (hr:P r):∀ x∈xs ++ [r],P x:=by
 intro x hx
 rcases List.mem_append.1 hx with h1 | h1
 ·exact h x h1
 ·simp at h1; subst h1; exact hr
theorem big_any (A:Option Addr) (n c:Nat) (w:World) (_hn:n≤9223372036854775807):Calls Tryz.prog 9 #[.slice A n c] w fun e w'=>e=.returned (.bool (decide ((1048576:Int) < (n:Int))))∧w=w':=by
 go_enter Tryz.func9,Tryz.ntmps9
 go_wp2
 go_ret
 exact ⟨rfl,rfl⟩
open Go.ChangeShapes Go.WideShapes in
theorem view_bytes {H:Type} {enc:TypeId × Value→H} {P:Program} {W:World} {r:Reach} {b0:Nat} {t e:TypeId} {v:Value} {d:DataW H} {ps:List MemPlace}
  (ht:P.underlying t=some (.slice e)) (he:P.underlying e=some (.int .u8)) (hc:P.cellsOf e=1) (hv:Value.okWide P W r b0 t v)
  (h:DataW.Trod enc P W 0 (fun _=>true) true t v d ps) (hlt:∀ x∈ps,x.block < W.heap.size) :
  ∃ A c xs,v=.slice A (List.length xs) c∧Bytes W W.heap.size A xs:=by
 obtain ⟨a0,len0,cap0,rfl⟩:=okWide_slice ht hv
 obtain ⟨fuel,hf⟩:=h
 have hf':DataW.trod enc P W 0 (fun _=>true) true fuel t [.slice a0 len0 cap0]=some (d,ps):=by simpa [Value.cells] using hf
 rcases open_ints ht he hc hf' with ⟨hcs,hx⟩ | ⟨a,len,cap,zs,hcs,_,hl,hm,hz,hx,hcell,hwz⟩
 ·simp at hcs
  obtain ⟨rfl,rfl,rfl⟩:=hcs
  exact ⟨none,0,[],rfl,Cells.nil_,by simp,by simp⟩
 ·simp at hcs
  obtain ⟨rfl,rfl,rfl⟩:=hcs
  simp only [if_true] at hz
  have hlen:(zs.take len0).length=len0:=by rw [List.length_take]; omega
  refine ⟨some a,cap0,zs.take len0,by rw [hlen],fun h0=>?_,fun x hx=>?_,by rw [hlen]; unfold maxLen at hm; omega⟩
  ·have hb0:(bytesV (zs.take len0)).length=len0:=by unfold bytesV; rw [List.length_map,hlen]
   rw [hb0] at h0
   obtain ⟨b,off,spot⟩:=a
   have hspot:spot=none:=by simpa [Addr.add] using World.cell?_spot (hcell 0 (by omega))
   subst hspot
   refine ⟨b,off,rfl,hlt (.cell b off) (by rw [(Prod.mk.inj hx).2]; exact MemPlace.mem_row.2 ⟨0,by omega,by simp⟩),fun i v hv=>?_⟩
   have hi:i < len0:=by
    have:=(List.getElem?_eq_some_iff.1 hv).1
    omega
   have hg:(zs.take len0)[i]? = some (zs.getD i 0):=by
    rw [List.getElem?_take,if_pos hi,List.getD_eq_getElem?_getD,List.getElem?_eq_getElem (by omega)]
    rfl
   rw [bytesV_get hg] at hv
   injection hv with hv
   rw [←hv,←add_plain]
   exact hcell i (by omega)
  ·have h1:=hwz x (List.mem_of_mem_take hx)
   simp only [Lit.wf,Bool.and_eq_true,decide_eq_true_eq] at h1
   exact h1
open Go.RowKit
theorem Cur.touch {L:List Nat} {w w':World} {p n c:Nat} {A:Option Addr} (h:Cur w p A n c) (hT:Touch L w w') (hp:p ∉ L):Cur w' p A n c:=by
 obtain ⟨i,x,k,h0,h1⟩:=h
 exact ⟨i,x,Blk.touch hT k hp,h0,h1⟩
set_option maxRecDepth 100000 in
theorem pick_any (p:Nat) (A:Option Addr) (c:Nat) (bs:List Int) (B:Option Addr) (d:Nat) (xs:List Int) (w:World) (hx0:1≤xs.length) (hx1:xs.length≤256) (hc:Cur w p A bs.length c) (hb:Bytes w p A bs)
  (g:Nat) (hB:B=some ⟨g,0,none⟩) (hgp:g≠p) (hg:g < w.heap.size) (hx:∀ i v,(ints xs)[i]? = some v→w.cell? ⟨g,i,none⟩=some v) :
  Calls Tryz.prog 148 #[.pointer (some ⟨p,0,none⟩),.slice B xs.length d] w fun e w'=>∃ r,r∈xs∧e=.returned (.int .i64 r)∧Cur w' p A bs.length c∧Touch [p] w w':=by
 subst hB
 have HX:=hid hx
 clear hx
 go_enter Tryz.func148,Tryz.ntmps148
 go_wp2_with fail
 refine (below_any _ _ _ _ _ _ (by omega) (by omega) hc hb).mono ?_
 rintro e w1 ⟨r,rfl,hr0,hr1,hc1,hT1⟩
 obtain ⟨i,rfl⟩:=Int.eq_ofNat_of_zero_le hr0
 obtain ⟨x,hxi⟩:∃ x,xs[i]? = some x:=⟨_,List.getElem?_eq_getElem (by omega)⟩
 have hcell:=hT1.cell (HX.out i _ (ints_get hxi)) (by dsimp only; omega) (by simp; omega)
 have hin:=List.mem_of_getElem? hxi
 clear hxi
 go_wp2
 go_ret
 exact ⟨x,hin,rfl,hc1,hT1⟩
set_option maxRecDepth 100000 in
set_option maxHeartbeats 800000 in
theorem word_any (p:Nat) (A:Option Addr) (c:Nat) (bs:List Int) (w:World) (hc:Cur w p A bs.length c) (hb:Bytes w p A bs) :
  Calls Tryz.prog 80 #[.pointer (some ⟨p,0,none⟩)] w fun e w'=>∃ r,e=.returned (.int .i64 r)∧isWordB r=true∧Cur w' p A bs.length c∧Touch [p] w w':=by
 have HB:=hid hb
 have hp:=hc.lt
 clear hb
 go_enter Tryz.func80,Tryz.ntmps80
 go_wp2_with fail
 refine (below_any _ _ _ _ _ _ (by omega) (by omega) hc HB.out).mono ?_
 rintro e w1 ⟨r,rfl,hr0,hr1,hc1,hT1⟩
 have z1:=hT1.size
 have hb1:=HB.out.touch hT1 (by omega)
 have HB1:=hid hb1
 have HC1:=hid hc1
 have HT1:=hid hT1
 clear hb1 hc1 hT1 hc
 have h3:r=0∨r=1∨(r≠0∧r≠1):=by omega
 rcases h3 with rfl | rfl | ⟨h4,h5⟩
 ·go_wp2_with fail
  refine (pick_any _ _ _ _ _ _ [0,1,4294967295,2147483648,65536] _ (by decide) (by decide) (HC1.out.alloc _) ⟨(HB1.out.cells.below ((Below.refl _ _).alloc (by omega) _)),HB1.out.small,HB1.out.len⟩ w1.heap.size rfl (by omega) (by simp) ?_).mono ?_
  ·intro i v hv
   have:=many_new w1 (ints [0,1,4294967295,2147483648,65536]) 3 i v hv
   have e:(⟨w1.heap.size,0,none⟩:Addr).add i=⟨w1.heap.size,i,none⟩:=by simp [Addr.add]; omega
   rw [e] at this
   exact this
  rintro e w2 ⟨r,hr,rfl,hc2,hT2⟩
  have hT:=HT1.out.trans (((Touch.refl _ _).alloc _).trans hT2)
  have hw:isWordB r=true:=by
   simp at hr
   rcases hr with rfl | rfl | rfl | rfl | rfl <;> rfl
  clear hr hT2
  go_wp2
  go_ret
  exact ⟨r,rfl,hw,hc2,hT⟩
 ·go_wp2_with fail
  refine (below_any _ _ _ _ _ _ (by omega) (by omega) HC1.out HB1.out).mono ?_
  rintro e w2 ⟨r,rfl,hr0,hr1,hc2,hT2⟩
  have hT:=HT1.out.trans hT2
  clear hT2
  go_wp2
  go_ret
  exact ⟨r,rfl,isWordB_iff.2 (by omega),hc2,hT⟩
 ·have t0:(r == 0)=false:=by simpa using h4
  have t1:(r == 1)=false:=by simpa using h5
  clear h4 h5
  go_wp2_with fail
  refine (below_any _ _ _ _ _ _ (by omega) (by omega) HC1.out HB1.out).mono ?_
  rintro e w2 ⟨a,rfl,ha0,ha1,hc2,hT2⟩
  have z2:=hT2.size
  have hb2:=HB1.out.touch hT2 (by omega)
  go_wp2_with fail
  refine (below_any _ _ _ _ _ _ (by omega) (by omega) hc2 hb2).mono ?_
  rintro e w3 ⟨b,rfl,hb0,hb1,hc3,hT3⟩
  have hT:=(HT1.out.trans hT2).trans hT3
  clear hT2 hT3 hb2 hc2
  go_wp2
  go_ret
  exact ⟨_,rfl,isWordB_iff.2 (by omega),hc3,hT⟩
theorem Bytes.more {w:World} {p q:Nat} {A:Option Addr} {bs:List Int} (h:Bytes w p A bs) (hq:p≤q):Bytes w q A bs:=⟨h.cells.more hq,h.small,h.len⟩
open Go.RowKit
def tapeOkB (s a:Int):Bool:=isWordB s && inB a 0 1000000
def tapeGoB (s a:Int):Bool:=tapeOkB s a && !(a == 1000000)
def belowB (s a n:Int):Bool:=inB n 1 65536 && tapeGoB s a
def belowI (s a n:Int):Int:=pick (belowB s a n) (keyedI s 7 a / 256 % n) 0
def belowAt (s a n:Int):Int:=pick (belowB s a n) (a + 1) a
theorem tapeOkB_range {s a:Int} (h:tapeOkB s a=true):0≤a∧a≤1000000:=by
 unfold tapeOkB at h
 simp only [Bool.and_eq_true] at h
 exact inB_iff.1 h.2
theorem belowI_range (s a n:Int):0≤belowI s a n∧belowI s a n≤65535:=by
 unfold belowI
 cases h:belowB s a n
 ·simp
 ·have hn:inB n 1 65536=true:=by unfold belowB at h; simp only [Bool.and_eq_true] at h; exact h.1
  have hn':=inB_iff.1 hn
  have hk:=keyedI_range s 7 a
  rw [pick_yes]
  have h1:=Int.emod_nonneg (keyedI s 7 a / 256) (b:=n) (by omega)
  have h2:=Int.emod_lt_of_pos (keyedI s 7 a / 256) (b:=n) (by omega)
  omega
open Go.RowKit
theorem iTapeOk (s a:Int) (w:World) :
  Calls Tryz.prog 55 #[.agg #[.int .i64 s,.int .i64 a]] w fun e w'=>e=.returned (.bool (tapeOkB s a))∧Below w.heap.size w w':=by
 cases h1:isWordB s; rotate_left
 cases h2:inB a 0 1000000
 all_goals
  have hR:tapeOkB s a=(isWordB s && inB a 0 1000000):=rfl
  try rw [h1] at hR
  try rw [h2] at hR
  simp at hR
  rw [hR]
  clear hR
  go_enter Tryz.func55,Tryz.ntmps55
  go_wp2_with (first | (go_at_call 56; refine (iWithin _ _ _ _).mono ?_; rintro e w' ⟨rfl,rfl⟩) | (go_at_call 112; refine (iIsWord _ _).mono ?_; rintro e w' ⟨rfl,rfl⟩))
  go_ret
  refine ⟨rfl,?_⟩
  exact belBy
end Go.Proofs.YtihbaieiempjeaaGreat
