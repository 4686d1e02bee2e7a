/- Lemmas of the proof: GrowT, Opt, Ands, Gar, GarS, GarL, Prg, Gates. -/
import Derived.Test.YtihbaieiempjeaaGreatC6
import Derived.Test.YtihbaieiempjeaaGreatC4
import Derived.Test.YtihbaieiempjeaaGreatC1
import Derived.Test.YtihbaieiempjeaaGreatC0
import Derived.Test.YtihbaieiempjeaaGreatC2
import Derived.Deep.DeepCutAuto
import Derived.Test.YtihbaieiempjeaaGreatC5
namespace Go.Proofs.YtihbaieiempjeaaGreat
open Go.RowKit
theorem tail_run {P:Program} {ops:Array Oper} {Q:Exit→Act→World→Prop} {n:Nat} (hc:Region.chainB .any ops n=true) (htopo:topoB ops=true) :
  ∀ (l2:List Oper) (k:Nat) (listed:Array Bool) (a:Act) (w:World),n≤k→(∀ j,l2[j]? = ops[k + j]?)→listed.size=ops.size→(∀ i,i < k→listed.getD i true=true) →
   (∀ t,k≤t→t < ops.size→listed.getD t true=false)→wpList P ops Q l2 a w→wpAny P .any ops Q l2.length listed a w
 | [],k,listed,a,w,hnk,hl,hsz,hdone,hopen,h=>by
  have hk:ops.size≤k:=by
   rcases Nat.lt_or_ge k ops.size with h1 | h1
   ·have:=hl 0
    simp [h1] at this
   ·exact h1
  refine ⟨?_,h⟩
  cases hr:Region.ready .any ops listed with
  | nil=>rfl
  | cons t ts =>
   exfalso
   obtain ⟨hu,o,ho,_⟩:=mem_ready.1 (show t∈Region.ready .any ops listed by rw [hr]; simp)
   have hlt:t < ops.size:=(Array.getElem?_eq_some_iff.1 ho).1
   rw [hdone t (by omega)] at hu
   cases hu
 | o :: l2,k,listed,a,w,hnk,hl,hsz,hdone,hopen,h=>by
  have ho:ops[k]? = some o:=by simpa using (hl 0).symm
  have hks:k < ops.size:=(Array.getElem?_eq_some_iff.1 ho).1
  have hkr:k∈Region.ready .any ops listed:=by
   refine mem_ready.2 ⟨hopen k (Nat.le_refl _) hks,o,ho,fun e he hb=>?_⟩
   exact getD_both' (hdone _ (topo_spec htopo ho e he hb)) (by rw [hsz]; have:=topo_spec htopo ho e he hb; omega)
  refine ⟨fun h0=>(by rw [h0] at hkr; cases hkr),fun i hi=>?_⟩
  have hik:i=k:=by
   obtain ⟨hu,oi,hoi,hall⟩:=mem_ready.1 hi
   have hilt:i < ops.size:=(Array.getElem?_eq_some_iff.1 hoi).1
   rcases Nat.lt_trichotomy i k with h1 | h1 | h1
   ·rw [hdone i h1] at hu
    cases hu
   ·exact h1
   ·exfalso
    have h2:=List.all_eq_true.1 hc i (List.mem_range.2 hilt)
    simp only [Bool.or_eq_true,decide_eq_true_eq] at h2
    rcases h2 with h2 | h2
    ·omega
    ·obtain ⟨o',ho',e,he,hb,hon⟩:=Region.waitsFor_spec h2
     have:o'=oi:=Option.some.inj (ho'.symm.trans hoi)
     subst this
     have h3:=hall e he hb
     rw [hon,getD_both (hopen (i - 1) (by omega) (by omega))] at h3
     cases h3
  subst hik
  have hrest:∀ a' w',wpList P ops Q l2 a' w'→wpAny P .any ops Q l2.length (listed.setIfInBounds i true) a' w':=fun a' w' h' =>
   tail_run hc htopo l2 (i + 1) _ a' w' (by omega) (fun j=>by have:=hl (j + 1); simpa [Nat.add_assoc,Nat.add_comm 1 j] using this) (by simp [hsz])
    (fun q hq=>by
     by_cases hqi:q=i
     ·subst hqi
      simp [hsz,hks]
     ·rw [getD_set_ne true (fun e=>hqi e.symm)]
      exact hdone q (by omega))
    (fun t ht hts=>by
     rw [getD_set_ne true (by omega)]
     exact hopen t (by omega) hts) h'
  have hw:wpOp P ops Q i (wpList P ops Q l2) a w:=by unfold wpOp; simp only [ho]; exact h
  exact wpOp_mono hrest hw
def growTailsB (ops:Array Oper) (n:Nat):Bool:=Region.noSelect ops && topoB ops && apartB ops n && decide (n < ops.size) && Region.sinkB .any ops n && Region.chainB .any ops n
theorem wp_grow_tails {P:Program} {spec:Nat→GSpec} {Q:Exit→Act→World→Prop} {a:Act} {w W:World} {id:Nat} {l:List Oper}
  (n:Nat) (hm:P.follows .mixedOrders=true) (hB:growTailsB l.toArray n=true) (hW:Onward W w.drew) (hstab:∀ k F,spec k=.any F→∀ v w w',F v w→Grows w w'→F v w')
  (h:gList P l.toArray (Onward W) Grows spec (fun fs a'=>∀ w',Onward W w'→(∀ j,fs j w')→wpList P l.toArray Q (l.drop n) a' w') 0 (l.take n) Facts.none a):(Code.region id l.toArray true).wp P Q a w:=by
 simp only [growTailsB,Bool.and_eq_true,decide_eq_true_eq] at hB
 obtain ⟨⟨⟨⟨⟨hsel,htopo⟩,hap⟩,hn⟩,hsink⟩,hchain⟩:=hB
 refine wp_region_any hm ?_
 have hnl:n < l.length:=by simpa using hn
 have hns:n < l.toArray.size:=hn
 have htl:(l.take n).length=n:=by simp; omega
 have hdl:(l.drop n).length=l.toArray.size - n:=by simp
 have h2:=gList_walk (n:=0) (l.take n) 0 Facts.none a (fun j hj=>by
  rw [htl] at hj
  simp [hj]) h
 rw [htl] at h2
 have H:=gAny (P:=P) (g:=l.toArray.size - n) (Q:=Q) (n:=n) (by omega) hsel htopo hap onward_step hstab (E:=fun fs a'=>∀ w',Onward W w'→(∀ j,fs j w')→wpList P l.toArray Q (l.drop n) a' w')
  (fun listed fs a' w' inv hnil hC hfs hE=>by
   have hT:=hE w' hC hfs
   have hall:∀ i,i < n→listed.getD i true=true:=fun i hi=>by
    cases hh:listed.getD i true with
    | true=>rfl
    | false =>
     have:=mem_heads.2 ⟨hi,hh⟩
     rw [hnil] at this
     cases this
   have:=tail_run hchain htopo (l.drop n) n listed a' w' (Nat.le_refl _) (fun j=>by simp [List.getElem?_drop]) inv.size hall (fun t h1 h2=>inv.tail t h1 h2) hT
   rwa [hdl] at this)
  (fun listed inv hne t ht=>by
   rcases Nat.lt_or_ge t n with h | h
   ·exact h
   ·exfalso
    obtain ⟨i,hi⟩:∃ i,i∈heads n listed:=by
     cases hh:heads n listed with
     | nil=>exact absurd hh hne
     | cons k ks=>exact ⟨k,by simp⟩
    have hi':=mem_heads.1 hi
    exact tail_waits hsink hchain hns inv (n - i) i rfl hi'.1 hi'.2 t h ht)
  n (Array.replicate l.toArray.size false) Facts.none a w.drew (inv_start _ _) (by rw [heads_all _ _ (by omega)]; simp) (by rw [heads_all _ _ (by omega)]; exact h2) hW (fun _=>trivial) (fun _ _ _ _ _=>trivial)
 rw [show n + (l.toArray.size - n)=l.toArray.size by omega] at H
 exact H
def specAt (l:List (Nat × GSpec)) (k:Nat):GSpec:=match l.lookup k with
 | some s=>s
 | none=>.det
theorem specAt_stab:∀ {l:List (Nat × GSpec)},(∀ p∈l,∀ F,p.2=.any F→∀ v w w',F v w→Grows w w'→F v w')→∀ k F,specAt l k=.any F→∀ v w w',F v w→Grows w w'→F v w':=by
 intro l h k F hk
 unfold specAt at hk
 split at hk
 ·rename_i G hG
  subst hk
  have:∀ (l:List (Nat × GSpec)),l.lookup k=some (.any F)→∃ p∈l,p.2=.any F:=by
   intro l
   induction l with
   | nil=>intro h; cases h
   | cons p l ih =>
    intro h
    obtain ⟨a,b⟩:=p
    rw [List.lookup_cons] at h
    split at h
    ·cases h
     exact ⟨_,List.mem_cons_self,rfl⟩
    ·obtain ⟨p,hp,e⟩:=ih h
     exact ⟨p,List.mem_cons_of_mem _ hp,e⟩
  obtain ⟨p,hp,e⟩:=this l hG
  exact h p hp F e
 ·cases hk
theorem gList_quietK {P:Program} {ops:Array Oper} {C:World→Prop} {R:World→World→Prop} {spec:Nat→GSpec} {E:Facts→Act→Prop} (m:Nat) {l:List Oper} {k:Nat} {fs:Facts} {a:Act} (hd:detsFrom spec k (l.take m)) (hm:m≤l.length)
  (h:wpQuiet P ops C (fun a'=>gList P ops C R spec E (k + m) (l.drop m) fs a') (l.take m) a):gList P ops C R spec E k l fs a:=by
 have h1:=gList_quiet (l.take m) (l2:=l.drop m) hd (E:=E) (R:=R) (fs:=fs) (a:=a) (P:=P) (ops:=ops) (C:=C) (by rw [List.length_take,Nat.min_eq_left hm]; exact h)
 rwa [List.take_append_drop] at h1
theorem grow_con {P:Program} {f:FuncId} {args:Array Value} {w:World} {c:Value} {o:Oper} {a:Act} (hr:(execOp a.eval o).run P w=.ok (.enter f args) w)
  (h:Calls P f args w fun e w''=>e=.returned c∧Below w.heap.size w w''):growUpon P Grows (fun v _=>v=c) w ((execOp a.eval o).run P w) :=
 grow_call hr (h.mono fun _ _ ⟨he,hb⟩=>⟨c,he,hb,rfl⟩)
open Go.RowKit
def eqGt (a b:Gt):Bool:=a.k == b.k && (a.a == b.a && a.b == b.b)
theorem eqGt_iff {a b:Gt}:eqGt a b=true↔a=b:=by
 obtain ⟨k,x,y⟩:=a
 obtain ⟨k',x',y'⟩:=b
 simp [eqGt]
def findG:List Gt→Gt→Nat
 | [],_=>0
 | h :: r,g=>if eqGt h g=true then 0 else findG r g + 1
theorem findG_le:∀ (l:List Gt) (g:Gt),findG l g≤l.length
 | [],_=>Nat.le_refl _
 | h :: r,g=>by
  have:=findG_le r g
  unfold findG
  split
  ·simp
  ·simp only [List.length_cons]; omega
theorem findG_lt:∀ {l:List Gt} {g:Gt},findG l g < l.length→l[findG l g]? = some g
 | [],_,h=>absurd h (by simp [findG])
 | x :: r,g,h=>by
  unfold findG at h ⊢
  split
  ·next he=>rw [eqGt_iff.1 he]; rfl
  ·next he =>
   rw [if_neg he] at h
   simp only [List.length_cons] at h
   have:=findG_lt (l:=r) (g:=g) (by omega)
   simpa using this
theorem findG_first:∀ {l:List Gt} {g:Gt} {i:Nat},i < findG l g→l[i]?≠some g
 | [],_,i,h=>absurd h (by simp [findG])
 | x :: r,g,i,h=>by
  unfold findG at h
  split at h
  ·omega
  ·next he =>
   cases i with
   | zero =>
    intro e
    injection e with e
    exact he (eqGt_iff.2 e)
   | succ i=>simpa using findG_first (l:=r) (g:=g) (i:=i) (by omega)
theorem findG_none {l:List Gt} {g:Gt} (h:¬ findG l g < l.length):∀ i:Nat,l[i]?≠some g:=fun i e=>by
 have hl:=findG_le l g
 have hi:=(List.getElem?_eq_some_iff.1 e).1
 exact findG_first (by omega) e
theorem findG_at {l:List Gt} {g:Gt} {i:Nat} (h:l[i]? = some g):findG l g≤i:=by
 rcases Nat.lt_or_ge i (findG l g) with h1 | h1
 ·exact absurd h (findG_first h1)
 ·exact h1
theorem findG_len {l:List Gt} {g:Gt} (h:¬ findG l g < l.length):findG l g=l.length:=by
 have:=findG_le l g
 omega
def putG (gs:List Gt) (g:Gt):List Gt:=if findG gs g < gs.length then gs else gs ++ [g]
def put2 (gs:List Gt) (g:Gt):List Gt × Int:=(putG gs g,(findG gs g:Int))
def gtAt (gs:List Gt) (w:Int):Gt:=gs.getD w.toNat ⟨0,0,0⟩
def valG (gs:List Gt) (w:Int):Int:=if (gtAt gs w).k=2 then (gtAt gs w).a else -1
def negG (gs:List Gt) (w:Int):List Gt × Int :=
 if (gtAt gs w).k=2 then put2 gs ⟨2,1 - (gtAt gs w).a,0⟩
 else if (gtAt gs w).k=5 then (gs,(gtAt gs w).a)
 else put2 gs ⟨5,w,0⟩
def halfG (gs:List Gt) (k a b:Int) (o:List Gt × Int):List Gt × Int :=
 if valG gs a=0∧k=3∨valG gs a=1∧k=4 then (gs,b)
 else if valG gs a=1 then negG gs b
 else if valG gs a=0 then put2 gs ⟨2,0,0⟩
 else o
def binG (gs:List Gt) (k a b:Int):List Gt × Int :=
 if a=b then (if k=4 then (gs,a) else put2 gs ⟨2,0,0⟩)
 else halfG gs k a b (halfG gs k b a (put2 gs ⟨k,min a b,max a b⟩))
def simpP (gs:List Gt) (tw:List Int) (g:Gt):List Gt × Int :=
 if g.k=3∨g.k=4 then binG gs g.k (tw.getD g.a.toNat 0) (tw.getD g.b.toNat 0)
 else if g.k=5 then negG gs (tw.getD g.a.toNat 0)
 else put2 gs ⟨g.k,g.a,0⟩
def simpS (st:List Gt × List Int) (g:Gt):List Gt × List Int:=((simpP st.1 st.2 g).1,st.2 ++ [(simpP st.1 st.2 g).2])
def simpTo (gs:List Gt):List Gt × List Int:=gs.foldl simpS ([],[])
def mapO (tw:List Int) (os:List Int):List Int:=os.map fun w=>tw.getD w.toNat 0
def simpC (gs:List Gt) (os:List Int):List Gt × List Int:=if circB gs os=true then ((simpTo gs).1,mapO (simpTo gs).2 os) else (gs,os)
theorem simpTo_snoc (gs:List Gt) (g:Gt):simpTo (gs ++ [g])=simpS (simpTo gs) g:=by simp [simpTo]
def live0 (n:Nat) (os:List Int):List Bool:=os.foldl (fun L w=>L.set w.toNat true) (List.replicate n false)
def liveP (g:Gt) (L:List Bool):List Bool :=
 if g.k=3∨g.k=4 then (L.set g.a.toNat true).set g.b.toNat true else if g.k=5 then L.set g.a.toNat true else L
def liveS (gs:List Gt) (L:List Bool) (i:Nat):List Bool:=if L.getD i false=true then liveP (gs.getD i ⟨0,0,0⟩) L else L
def liveTo (gs:List Gt) (L:List Bool):Nat→List Bool
 | 0=>L
 | i + 1=>liveTo gs (liveS gs L i) i
def liveG (gs:List Gt) (os:List Int):List Bool:=liveTo gs (live0 gs.length os) gs.length
def reG (tw:List Int) (g:Gt):Gt :=
 if g.k=3∨g.k=4 then ⟨g.k,tw.getD g.a.toNat 0,tw.getD g.b.toNat 0⟩ else if g.k=5 then ⟨g.k,tw.getD g.a.toNat 0,g.b⟩ else g
def prS (gs:List Gt) (L:List Bool) (st:List Gt × List Int) (i:Nat):List Gt × List Int :=
 if L.getD i false=true then (st.1 ++ [reG st.2 (gs.getD i ⟨0,0,0⟩)],st.2.set i (st.1.length:Int)) else st
def prTo (gs:List Gt) (L:List Bool):Nat→List Gt × List Int
 | 0=>([],List.replicate gs.length 0)
 | i + 1=>prS gs L (prTo gs L i) i
def prunC (gs:List Gt) (os:List Int):List Gt × List Int :=
 if circB gs os=true then ((prTo gs (liveG gs os) gs.length).1,mapO (prTo gs (liveG gs os) gs.length).2 os) else (gs,os)
def optC (gs:List Gt) (os:List Int):List Gt × List Int:=prunC (simpC gs os).1 (simpC gs os).2
def Apart (gs:List Gt):Prop:=∀ (i j:Nat) (g:Gt),gs[i]? = some g→gs[j]? = some g→i=j
theorem apart_put {gs:List Gt} (h:Apart gs) (g:Gt):Apart (putG gs g):=by
 unfold putG
 split
 ·exact h
 ·next hn =>
  have hno:=findG_none hn
  intro i j x hi hj
  have hil:=(List.getElem?_eq_some_iff.1 hi).1
  have hjl:=(List.getElem?_eq_some_iff.1 hj).1
  rw [List.length_append,List.length_singleton] at hil hjl
  by_cases h1:i < gs.length
  ·rw [List.getElem?_append_left h1] at hi
   by_cases h2:j < gs.length
   ·rw [List.getElem?_append_left h2] at hj
    exact h i j x hi hj
   ·obtain rfl:j=gs.length:=by omega
    simp at hj
    subst hj
    exact absurd hi (hno i)
  ·obtain rfl:i=gs.length:=by omega
   simp at hi
   subst hi
   by_cases h2:j < gs.length
   ·rw [List.getElem?_append_left h2] at hj
    exact absurd hj (hno j)
   ·omega
theorem put_le (gs:List Gt) (g:Gt):gs.length≤(putG gs g).length∧(putG gs g).length≤gs.length + 1∧findG gs g < (putG gs g).length:=by
 have:=findG_le gs g
 unfold putG
 split
 ·omega
 ·simp; omega
structure OkP (gs:List Gt) (p:List Gt × Int):Prop where
 g:gatesB 0 p.1=true
 ap:Apart p.1
 lo:gs.length≤p.1.length
 hi:p.1.length≤gs.length + 1
 w:wireB p.1.length p.2=true
theorem put_ok {gs:List Gt} {g:Gt} (h:gatesB 0 gs=true) (ha:Apart gs) (hg:gateB g gs.length=true):OkP gs (put2 gs g):=by
 have hl:=put_le gs g
 refine ⟨?_,apart_put ha g,hl.1,hl.2.1,wire_at hl.2.2⟩
 show gatesB 0 (putG gs g)=true
 unfold putG
 split
 ·exact h
 ·exact gatesB_snoc h hg
theorem same_ok {gs:List Gt} {w:Int} (h:gatesB 0 gs=true) (ha:Apart gs) (hw:wireB gs.length w=true):OkP gs (gs,w):=⟨h,ha,Nat.le_refl _,Nat.le_succ _,hw⟩
theorem gt_at {gs:List Gt} {w:Int} (hw:wireB gs.length w=true):gs[w.toNat]? = some (gtAt gs w):=by
 have:=wireB_iff.1 hw
 unfold gtAt
 rw [List.getD_eq_getElem?_getD,List.getElem?_eq_getElem (by omega)]
 rfl
theorem gt_ok {gs:List Gt} {w:Int} (h:gatesB 0 gs=true) (hw:wireB gs.length w=true):gateB (gtAt gs w) w=true:=by
 have h1:=gatesB_at h (gt_at hw)
 have:=wireB_iff.1 hw
 rw [show ((0 + w.toNat:Nat):Int)=w by omega] at h1
 exact h1
theorem gate_is2 {g:Gt} {n:Int} (h:gateB g n=true) (hk:g.k=2):(g.a=0∨g.a=1)∧g.b=0:=by
 unfold gateB at h
 rw [if_neg (by omega),if_pos hk] at h
 simp only [Bool.and_eq_true,inB_iff,beq_iff_eq] at h
 omega
theorem gate_is1 {g:Gt} {n:Int} (h:gateB g n=true) (hk:g.k=1):(0≤g.a∧g.a≤79)∧g.b=0:=by
 unfold gateB at h
 rw [if_pos hk] at h
 simp only [Bool.and_eq_true,inB_iff,beq_iff_eq] at h
 omega
theorem gate_is5 {g:Gt} {n:Int} (h:gateB g n=true) (hk:g.k=5):(0≤g.a∧g.a < n)∧g.b=0:=by
 unfold gateB at h
 rw [if_neg (by omega),if_neg (by omega),if_neg (by omega),if_pos hk] at h
 simp only [Bool.and_eq_true,inB_iff,beq_iff_eq] at h
 omega
theorem gate_is34 {g:Gt} {n:Int} (h:gateB g n=true) (hk:g.k=3∨g.k=4):(0≤g.a∧g.a < n)∧(0≤g.b∧g.b < n):=by
 unfold gateB at h
 rw [if_neg (by omega),if_neg (by omega),if_pos hk] at h
 simp only [Bool.and_eq_true,inB_iff] at h
 omega
theorem gate_kind {g:Gt} {n:Int} (h:gateB g n=true):g.k=1∨g.k=2∨g.k=3∨g.k=4∨g.k=5:=by
 unfold gateB at h
 by_cases h1:g.k=1
 ·exact .inl h1
 by_cases h2:g.k=2
 ·exact .inr (.inl h2)
 by_cases h3:g.k=3∨g.k=4
 ·rcases h3 with h3 | h3
  ·exact .inr (.inr (.inl h3))
  ·exact .inr (.inr (.inr (.inl h3)))
 by_cases h5:g.k=5
 ·exact .inr (.inr (.inr (.inr h5)))
 rw [if_neg h1,if_neg h2,if_neg h3,if_neg h5] at h
 cases h
theorem neg_ok {gs:List Gt} {w:Int} (h:gatesB 0 gs=true) (ha:Apart gs) (hw:wireB gs.length w=true):OkP gs (negG gs w):=by
 have hg:=gt_ok h hw
 have hw':=wireB_iff.1 hw
 unfold negG
 by_cases h2:(gtAt gs w).k=2
 ·rw [if_pos h2]
  have:=gate_is2 hg h2
  exact put_ok h ha (gate2 (by omega))
 rw [if_neg h2]
 by_cases h5:(gtAt gs w).k=5
 ·rw [if_pos h5]
  have:=gate_is5 hg h5
  exact same_ok h ha (wireB_iff.2 (by omega))
 rw [if_neg h5]
 exact put_ok h ha (gate5 hw)
theorem half_ok {gs:List Gt} {k a b:Int} {o:List Gt × Int} (h:gatesB 0 gs=true) (ha:Apart gs) (hb:wireB gs.length b=true) (ho:OkP gs o):OkP gs (halfG gs k a b o):=by
 unfold halfG
 split
 ·exact same_ok h ha hb
 split
 ·exact neg_ok h ha hb
 split
 ·exact put_ok h ha (gate2 (.inl rfl))
 ·exact ho
theorem bin_ok {gs:List Gt} {k a b:Int} (hk:k=3∨k=4) (h:gatesB 0 gs=true) (ha:Apart gs) (wa:wireB gs.length a=true) (wb:wireB gs.length b=true):OkP gs (binG gs k a b):=by
 unfold binG
 split
 ·split
  ·exact same_ok h ha wa
  ·exact put_ok h ha (gate2 (.inl rfl))
 ·refine half_ok h ha wb (half_ok h ha wa (put_ok h ha (gate3 hk ?_ ?_)))
  ·have h1:=wireB_iff.1 wa
   have h2:=wireB_iff.1 wb
   exact wireB_iff.2 (by omega)
  ·have h1:=wireB_iff.1 wa
   have h2:=wireB_iff.1 wb
   exact wireB_iff.2 (by omega)
structure OkS (st:List Gt × List Int) (k:Nat):Prop where
 g:gatesB 0 st.1=true
 ap:Apart st.1
 hi:st.1.length≤k
 tl:st.2.length=k
 t:∀ w∈st.2,wireB st.1.length w=true
theorem OkS.at_ {st:List Gt × List Int} {k:Nat} (h:OkS st k) {x:Int} (hx:0≤x∧x < k):st.2[x.toNat]? = some (st.2.getD x.toNat 0)∧wireB st.1.length (st.2.getD x.toNat 0)=true:=by
 have hl:=h.tl
 have e:st.2[x.toNat]? = some (st.2.getD x.toNat 0):=by
  rw [List.getD_eq_getElem?_getD,List.getElem?_eq_getElem (by omega)]
  rfl
 exact ⟨e,h.t _ (List.mem_of_getElem? e)⟩
theorem simpP_ok {st:List Gt × List Int} {k:Nat} (h:OkS st k) {g:Gt} (hg:gateB g k=true):OkP st.1 (simpP st.1 st.2 g):=by
 unfold simpP
 by_cases h34:g.k=3∨g.k=4
 ·rw [if_pos h34]
  have:=gate_is34 hg h34
  exact bin_ok h34 h.g h.ap (h.at_ this.1).2 (h.at_ this.2).2
 rw [if_neg h34]
 by_cases h5:g.k=5
 ·rw [if_pos h5]
  exact neg_ok h.g h.ap (h.at_ (gate_is5 hg h5).1).2
 rw [if_neg h5]
 refine put_ok h.g h.ap ?_
 rcases gate_kind hg with h1 | h1 | h1 | h1 | h1
 ·have:=gate_is1 hg h1
  unfold gateB
  dsimp only
  rw [if_pos h1,inB_iff.2 (by omega)]
  rfl
 ·have:=gate_is2 hg h1
  rw [h1]
  exact gate2 (by omega)
 ·exact absurd (.inl h1) h34
 ·exact absurd (.inr h1) h34
 ·exact absurd h1 h5
theorem simpS_ok {st:List Gt × List Int} {k:Nat} (h:OkS st k) {g:Gt} (hg:gateB g k=true):OkS (simpS st g) (k + 1):=by
 have hp:=simpP_ok h hg
 have hh:=h.hi
 have hph:=hp.hi
 refine ⟨hp.g,hp.ap,by show (simpP st.1 st.2 g).1.length≤_; omega,by simp [simpS,h.tl],fun w hw=>?_⟩
 rcases List.mem_append.1 hw with hw | hw
 ·exact wireB_mono (h.t w hw) hp.lo
 ·simp at hw
  subst hw
  exact hp.w
theorem simp_take {gs:List Gt} (h:gatesB 0 gs=true):∀ k,k≤gs.length→OkS (simpTo (gs.take k)) k
 | 0,_=>⟨rfl,fun i j g hi=>by simp [simpTo] at hi,Nat.le_refl _,rfl,fun w hw=>by simp [simpTo] at hw⟩
 | k + 1,hk=>by
  have hk':k < gs.length:=by omega
  rw [List.take_succ_eq_append_getElem hk',simpTo_snoc]
  have hg:=gatesB_at h (List.getElem?_eq_getElem hk')
  rw [Nat.zero_add] at hg
  exact simpS_ok (simp_take h k (by omega)) hg
theorem simp_all {gs:List Gt} (h:gatesB 0 gs=true):OkS (simpTo gs) gs.length:=by
 have:=simp_take h gs.length (Nat.le_refl _)
 rwa [List.take_length] at this
theorem circ_parts {gs:List Gt} {os:List Int} (h:circB gs os=true):gs.length≤6000∧gatesB 0 gs=true∧outsB gs.length os=true:=by
 unfold circB at h
 simp only [Bool.and_eq_true,decide_eq_true_eq] at h
 exact h
theorem circ_mk {gs:List Gt} {os:List Int} (h1:gs.length≤6000) (h2:gatesB 0 gs=true) (h3:outsB gs.length os=true):circB gs os=true:=by
 unfold circB
 rw [decide_eq_true h1,h2,h3]
 rfl
theorem outs_wire {n:Nat} {os:List Int} (h:outsB n os=true):∀ w∈os,wireB n w=true:=fun w hw=>List.all_eq_true.1 h w hw
theorem simp_valid {gs:List Gt} {os:List Int} (h:circB gs os=true):circB (simpC gs os).1 (simpC gs os).2=true:=by
 obtain ⟨h1,h2,h3⟩:=circ_parts h
 have hs:=simp_all h2
 unfold simpC
 rw [if_pos h]
 have hh:=hs.hi
 refine circ_mk (by show (simpTo gs).1.length≤_; omega) hs.g ?_
 refine List.all_eq_true.2 fun w hw=>?_
 obtain ⟨x,hx,rfl⟩:=List.mem_map.1 hw
 have:=wireB_iff.1 (outs_wire h3 x hx)
 exact (hs.at_ (by omega)).2
theorem liveP_length (g:Gt) (L:List Bool):(liveP g L).length=L.length:=by
 unfold liveP
 split
 ·simp
 split
 ·simp
 ·rfl
theorem liveS_length (gs:List Gt) (L:List Bool) (i:Nat):(liveS gs L i).length=L.length:=by
 unfold liveS
 split
 ·exact liveP_length _ _
 ·rfl
theorem liveTo_length (gs:List Gt):∀ (i:Nat) (L:List Bool),(liveTo gs L i).length=L.length
 | 0,_=>rfl
 | i + 1,L=>by rw [liveTo,liveTo_length gs i,liveS_length]
theorem live0_length (n:Nat) (os:List Int):(live0 n os).length=n:=by
 unfold live0
 have:∀ (os:List Int) (L:List Bool),(os.foldl (fun L w=>L.set w.toNat true) L).length=L.length:=fun os=>by
  induction os with
  | nil=>intro L; rfl
  | cons w os ih=>intro L; rw [List.foldl_cons,ih,List.length_set]
 rw [this,List.length_replicate]
theorem liveG_length (gs:List Gt) (os:List Int):(liveG gs os).length=gs.length:=by rw [liveG,liveTo_length,live0_length]
theorem set_true {L:List Bool} {i j:Nat} (h:L.getD j false=true):(L.set i true).getD j false=true:=by
 rw [List.getD_eq_getElem?_getD] at h ⊢
 rw [List.getElem?_set]
 split
 ·next e =>
  subst e
  split
  ·rfl
  ·next hl =>
   rw [List.getElem?_eq_none (by omega)] at h
   cases h
 ·exact h
theorem set_self {L:List Bool} {i:Nat} (h:i < L.length):(L.set i true).getD i false=true:=by
 rw [List.getD_eq_getElem?_getD,List.getElem?_set,if_pos rfl,if_pos h]
 rfl
theorem set_other {L:List Bool} {i j:Nat} (h:i≠j):(L.set i true).getD j false=L.getD j false:=by
 rw [List.getD_eq_getElem?_getD,List.getElem?_set,if_neg h,List.getD_eq_getElem?_getD]
theorem liveP_mono {g:Gt} {L:List Bool} {j:Nat} (h:L.getD j false=true):(liveP g L).getD j false=true:=by
 unfold liveP
 split
 ·exact set_true (set_true h)
 split
 ·exact set_true h
 ·exact h
theorem liveS_mono {gs:List Gt} {L:List Bool} {i j:Nat} (h:L.getD j false=true):(liveS gs L i).getD j false=true:=by
 unfold liveS
 split
 ·exact liveP_mono h
 ·exact h
theorem liveTo_mono (gs:List Gt):∀ (i:Nat) {L:List Bool} {j:Nat},L.getD j false=true→(liveTo gs L i).getD j false=true
 | 0,_,_,h=>h
 | i + 1,_,_,h=>liveTo_mono gs i (liveS_mono h)
def Fed (gs:List Gt) (L:List Bool) (i:Nat):Prop:=∀ g,gs[i]? = some g→L.getD i false=true →
 ((g.k=3∨g.k=4)→L.getD g.a.toNat false=true∧L.getD g.b.toNat false=true)∧(g.k=5→L.getD g.a.toNat false=true)
theorem liveS_far {gs:List Gt} {L:List Bool} {i j:Nat} (h:gatesB 0 gs=true) (hij:i≤j):(liveS gs L i).getD j false=L.getD j false:=by
 unfold liveS
 split
 ·by_cases hl:i < gs.length
  ·have hg:=gatesB_at h (List.getElem?_eq_getElem hl)
   have e:gs.getD i ⟨0,0,0⟩=gs[i]:=by rw [List.getD_eq_getElem?_getD,List.getElem?_eq_getElem hl]; rfl
   rw [Nat.zero_add] at hg
   rw [e]
   unfold liveP
   split
   ·next hk =>
    have:=gate_is34 hg hk
    rw [set_other (by omega),set_other (by omega)]
   split
   ·next hk =>
    have:=gate_is5 hg hk
    rw [set_other (by omega)]
   ·rfl
  ·have e:gs.getD i ⟨0,0,0⟩=⟨0,0,0⟩:=by rw [List.getD_eq_getElem?_getD,List.getElem?_eq_none (by omega)]; rfl
   rw [e]
   rfl
 ·rfl
theorem liveS_fed {gs:List Gt} {L:List Bool} {i:Nat} (h:gatesB 0 gs=true) (hL:L.length=gs.length):Fed gs (liveS gs L i) i:=by
 intro g hg hl
 rw [liveS_far h (Nat.le_refl _)] at hl
 have hv:=gatesB_at h hg
 have hi:=(List.getElem?_eq_some_iff.1 hg).1
 rw [Nat.zero_add] at hv
 have e:gs.getD i ⟨0,0,0⟩=g:=by rw [List.getD_eq_getElem?_getD,hg]; rfl
 unfold liveS
 rw [if_pos hl,e]
 unfold liveP
 refine ⟨fun hk=>?_,fun hk=>?_⟩
 ·have:=gate_is34 hv hk
  rw [if_pos hk]
  exact ⟨set_true (set_self (by omega)),set_self (by rw [List.length_set]; omega)⟩
 ·have:=gate_is5 hv hk
  rw [if_neg (by omega),if_pos hk]
  exact set_self (by omega)
theorem fed_mono {gs:List Gt} {L L':List Bool} {i:Nat} (h:Fed gs L i) (he:L'.getD i false=L.getD i false) (hm:∀ j,L.getD j false=true→L'.getD j false=true):Fed gs L' i:=by
 intro g hg hl
 rw [he] at hl
 obtain ⟨h1,h2⟩:=h g hg hl
 exact ⟨fun hk=>⟨hm _ (h1 hk).1,hm _ (h1 hk).2⟩,fun hk=>hm _ (h2 hk)⟩
theorem liveTo_fed {gs:List Gt} (h:gatesB 0 gs=true):∀ (i:Nat) {L:List Bool},L.length=gs.length→(∀ j,i≤j→Fed gs L j)→∀ j,Fed gs (liveTo gs L i) j
 | 0,_,_,hf=>fun j=>hf j (Nat.zero_le _)
 | i + 1,L,hL,hf=>by
  refine liveTo_fed h i (by rw [liveS_length,hL]) fun j hj=>?_
  by_cases e:j=i
  ·subst e
   exact liveS_fed h hL
  ·exact fed_mono (hf j (by omega)) (liveS_far h hj) (fun _ h=>liveS_mono h)
theorem liveG_fed {gs:List Gt} (h:gatesB 0 gs=true) (os:List Int):∀ j,Fed gs (liveG gs os) j:=by
 refine liveTo_fed h _ (live0_length _ _) fun j hj=>?_
 intro g hg
 have:=(List.getElem?_eq_some_iff.1 hg).1
 omega
theorem live0_out {n:Nat} {os:List Int} (h:outsB n os=true):∀ w∈os,(live0 n os).getD w.toNat false=true:=by
 have key:∀ (os:List Int) (L:List Bool),L.length=n→(∀ w∈os,wireB n w=true)→(∀ j,L.getD j false=true→(os.foldl (fun L w=>L.set w.toNat true) L).getD j false=true)∧∀ w∈os,(os.foldl (fun L w=>L.set w.toNat true) L).getD w.toNat false=true:=fun os=>by
  induction os with
  | nil=>intro L _ _; exact ⟨fun _ h=>h,fun w hw=>by cases hw⟩
  | cons x os ih =>
   intro L hL hw
   have hx:=wireB_iff.1 (hw x (by simp))
   obtain ⟨i1,i2⟩:=ih (L.set x.toNat true) (by rw [List.length_set,hL]) fun w hw'=>hw w (by simp [hw'])
   rw [List.foldl_cons]
   refine ⟨fun j hj=>i1 j (set_true hj),fun w hw'=>?_⟩
   rcases List.mem_cons.1 hw' with rfl | hw'
   ·exact i1 _ (set_self (by omega))
   ·exact i2 w hw'
 exact (key os _ (List.length_replicate ..) (outs_wire h)).2
theorem liveG_out {gs:List Gt} {os:List Int} (h:outsB gs.length os=true):∀ w∈os,(liveG gs os).getD w.toNat false=true:=fun w hw=>liveTo_mono gs _ (live0_out h w hw)
structure OkR (gs:List Gt) (L:List Bool) (st:List Gt × List Int) (k:Nat):Prop where
 g:gatesB 0 st.1=true
 hi:st.1.length≤k
 tl:st.2.length=gs.length
 t:∀ i,i < k→L.getD i false=true→wireB st.1.length (st.2.getD i 0)=true
theorem reG_ok {gs:List Gt} {L:List Bool} {st:List Gt × List Int} {k:Nat} {g:Gt} (h:OkR gs L st k) (hf:Fed gs L k) (hg:gs[k]? = some g) (hv:gateB g k=true) (hl:L.getD k false=true):gateB (reG st.2 g) st.1.length=true:=by
 obtain ⟨f1,f2⟩:=hf g hg hl
 unfold reG
 by_cases h34:g.k=3∨g.k=4
 ·have hw:=gate_is34 hv h34
  rw [if_pos h34]
  exact gate3 h34 (h.t _ (by omega) (f1 h34).1) (h.t _ (by omega) (f1 h34).2)
 rw [if_neg h34]
 by_cases h5:g.k=5
 ·have hw:=gate_is5 hv h5
  rw [if_pos h5,h5,hw.2]
  exact gate5 (h.t _ (by omega) (f2 h5))
 rw [if_neg h5]
 unfold gateB at hv ⊢
 rw [if_neg h34,if_neg h5] at hv ⊢
 exact hv
theorem prS_ok {gs:List Gt} {L:List Bool} {st:List Gt × List Int} {k:Nat} (h:OkR gs L st k) (hgs:gatesB 0 gs=true) (hf:Fed gs L k) (hk:k < gs.length):OkR gs L (prS gs L st k) (k + 1):=by
 have hv:=gatesB_at hgs (List.getElem?_eq_getElem hk)
 rw [Nat.zero_add] at hv
 have e:gs.getD k ⟨0,0,0⟩=gs[k]:=by rw [List.getD_eq_getElem?_getD,List.getElem?_eq_getElem hk]; rfl
 have hhi:=h.hi
 have htl:=h.tl
 unfold prS
 split
 ·next hl =>
  rw [e]
  refine ⟨gatesB_snoc h.g (reG_ok h hf (List.getElem?_eq_getElem hk) hv hl),by simp; omega,by simp [htl],fun i hi hLi=>?_⟩
  show wireB (st.1 ++ _).length ((st.2.set k _).getD i 0)=true
  rw [List.length_append,List.length_singleton,List.getD_eq_getElem?_getD,List.getElem?_set]
  split
  ·next e =>
   subst e
   rw [if_pos (by omega)]
   exact wire_at (by omega)
  ·rw [←List.getD_eq_getElem?_getD]
   exact wireB_mono (h.t i (by omega) hLi) (by omega)
 ·next hl =>
  refine ⟨h.g,by omega,htl,fun i hi hLi=>?_⟩
  by_cases e:i=k
  ·subst e
   exact absurd hLi hl
  ·exact h.t i (by omega) hLi
theorem prTo_ok {gs:List Gt} {L:List Bool} (hgs:gatesB 0 gs=true) (hf:∀ j,Fed gs L j):∀ k,k≤gs.length→OkR gs L (prTo gs L k) k
 | 0,_=>⟨rfl,Nat.le_refl _,by simp [prTo],fun i hi=>by omega⟩
 | k + 1,hk=>prS_ok (prTo_ok hgs hf k (by omega)) hgs (hf k) (by omega)
theorem prun_valid {gs:List Gt} {os:List Int} (h:circB gs os=true):circB (prunC gs os).1 (prunC gs os).2=true:=by
 obtain ⟨h1,h2,h3⟩:=circ_parts h
 have hr:=prTo_ok h2 (liveG_fed h2 os) gs.length (Nat.le_refl _)
 unfold prunC
 rw [if_pos h]
 have hh:=hr.hi
 refine circ_mk (by show (prTo gs (liveG gs os) gs.length).1.length≤_; omega) hr.g ?_
 refine List.all_eq_true.2 fun w hw=>?_
 obtain ⟨x,hx,rfl⟩:=List.mem_map.1 hw
 have:=wireB_iff.1 (outs_wire h3 x hx)
 exact hr.t _ (by omega) (liveG_out h3 x hx)
theorem opt_valid {gs:List Gt} {os:List Int} (h:circB gs os=true):circB (optC gs os).1 (optC gs os).2=true:=prun_valid (simp_valid h)
def andG (gs:List Gt):Nat:=(gs.filter (fun g=>g.k == 4)).length
def andOne (g:Gt):Nat:=if (g.k == 4)=true then 1 else 0
theorem andG_snoc (gs:List Gt) (g:Gt):andG (gs ++ [g])=andG gs + andOne g:=by
 unfold andG andOne
 rw [List.filter_append,List.length_append]
 cases hk:(g.k == 4) <;> simp [List.filter,hk]
open Go.RowKit
def hashI (x n:Int):Int:=keyedI 77 n x % 65536
def ifI (b x:Int):Int:=pick (b == 1) x 0
def xorI (a b:Int):Int:=bits .xor .i64 a b
def oneI (a:Int):Int:=bits .and .i64 a 1
def tgI (d a b n:Int):Int:=xorI (xorI (hashI a (2 * n)) (hashI (xorI a d) (2 * n))) (ifI (oneI b) d)
def teI (d a b n:Int):Int:=xorI (xorI (hashI b (2 * n + 1)) (hashI (xorI b d) (2 * n + 1))) a
def gaI (d a b n:Int):Int:=xorI (xorI (xorI (hashI a (2 * n)) (hashI b (2 * n + 1))) (ifI (oneI a) (tgI d a b n))) (ifI (oneI b) (xorI (teI d a b n) a))
def garZ (s d:Int) (zs:List Int) (n:Nat) (g:Gt):Int :=
 if g.k=1 then zeroI s g.a
 else if g.k=2 then zeroI s (1000 + n)
 else if g.k=3 then xorI (zs.getD g.a.toNat 0) (zs.getD g.b.toNat 0)
 else if g.k=5 then xorI (zs.getD g.a.toNat 0) d
 else gaI d (zs.getD g.a.toNat 0) (zs.getD g.b.toNat 0) n
def garT (d:Int) (zs:List Int) (n:Nat) (g:Gt):List Int :=
 if (g.k == 4)=true then [tgI d (zs.getD g.a.toNat 0) (zs.getD g.b.toNat 0) n,teI d (zs.getD g.a.toNat 0) (zs.getD g.b.toNat 0) n] else []
def garTo (s d:Int) (gs:List Gt):Nat→List Int × List Int
 | 0=>([],[])
 | j + 1=>((garTo s d gs j).1 ++ [garZ s d (garTo s d gs j).1 j (gs.getD j ⟨0,0,0⟩)],(garTo s d gs j).2 ++ garT d (garTo s d gs j).1 j (gs.getD j ⟨0,0,0⟩))
theorem gar_zeros (s d:Int) (gs:List Gt):∀ j,(garTo s d gs j).1.length=j
 | 0=>rfl
 | j + 1=>by rw [garTo,List.length_append,gar_zeros s d gs j]; rfl
theorem garT_length (d:Int) (zs:List Int) (n:Nat) (g:Gt):(garT d zs n g).length=2 * andOne g:=by
 unfold garT andOne
 split <;> rfl
theorem gar_tables (s d:Int) (gs:List Gt):∀ j,j≤gs.length→(garTo s d gs j).2.length=2 * andG (gs.take j)
 | 0,_=>rfl
 | j + 1,hj=>by
  have hl:j < gs.length:=by omega
  have e1:gs.take (j + 1)=gs.take j ++ [gs[j]]:=List.take_succ_eq_append_getElem hl
  have e2:gs.getD j ⟨0,0,0⟩=gs[j]:=by rw [List.getD_eq_getElem?_getD,List.getElem?_eq_getElem hl]; rfl
  rw [garTo,List.length_append,garT_length,gar_tables s d gs j (by omega),e1,andG_snoc,e2]
  omega
open Go.RowKit
theorem hash_label (x n:Int):labelB (hashI x n)=true:=by
 obtain ⟨h0,h1⟩:=keyedI_range 77 n x
 unfold hashI
 exact labelB_iff.2 (by omega)
open Go.RowKit
theorem xorI_label {a b:Int} (ha:labelB a=true) (hb:labelB b=true):labelB (xorI a b)=true:=xor_label ha hb
theorem zero_lab:labelB 0=true:=by decide
theorem ifI_label {b x:Int} (hx:labelB x=true):labelB (ifI b x)=true:=by
 unfold ifI
 cases (b == 1)
 ·exact zero_lab
 ·exact hx
theorem tg_label {d a b:Int} (n:Int) (hd:labelB d=true):labelB (tgI d a b n)=true:=xorI_label (xorI_label (hash_label _ _) (hash_label _ _)) (ifI_label hd)
theorem te_label {d a b:Int} (n:Int) (ha:labelB a=true):labelB (teI d a b n)=true:=xorI_label (xorI_label (hash_label _ _) (hash_label _ _)) ha
theorem ga_label {d a b:Int} (n:Int) (hd:labelB d=true) (ha:labelB a=true):labelB (gaI d a b n)=true :=
 xorI_label (xorI_label (xorI_label (hash_label _ _) (hash_label _ _)) (ifI_label (tg_label n hd))) (ifI_label (xorI_label (te_label n ha) ha))
theorem getD_label {zs:List Int} (h:∀ z∈zs,labelB z=true) (i:Nat):labelB (zs.getD i 0)=true:=by
 rw [List.getD_eq_getElem?_getD]
 cases hx:zs[i]? with
 | none=>exact zero_lab
 | some z=>exact h z (List.mem_of_getElem? hx)
theorem garZ_label {s d:Int} {zs:List Int} (n:Nat) (g:Gt) (hd:labelB d=true) (h:∀ z∈zs,labelB z=true):labelB (garZ s d zs n g)=true:=by
 unfold garZ
 split
 ·exact zero_label _ _
 ·split
  ·exact zero_label _ _
  ·split
   ·exact xorI_label (getD_label h _) (getD_label h _)
   ·split
    ·exact xorI_label (getD_label h _) hd
    ·exact ga_label _ hd (getD_label h _)
theorem gar_labels {s d:Int} (gs:List Gt) (hd:labelB d=true):∀ j,∀ z∈(garTo s d gs j).1,labelB z=true
 | 0,z,hz=>by simp [garTo] at hz
 | j + 1,z,hz=>by
  rw [garTo,List.mem_append,List.mem_singleton] at hz
  rcases hz with hz | rfl
  ·exact gar_labels gs hd j z hz
  ·exact garZ_label _ _ hd (gar_labels gs hd j)
theorem garT_labels {d:Int} {zs:List Int} (n:Nat) (g:Gt) (hd:labelB d=true) (h:∀ z∈zs,labelB z=true):∀ t∈garT d zs n g,labelB t=true:=by
 unfold garT
 split
 ·intro t ht
  rw [List.mem_cons,List.mem_singleton] at ht
  rcases ht with rfl | rfl
  ·exact tg_label _ hd
  ·exact te_label _ (getD_label h _)
 ·intro t ht
  cases ht
theorem gar_tlabels {s d:Int} (gs:List Gt) (hd:labelB d=true):∀ j,∀ t∈(garTo s d gs j).2,labelB t=true
 | 0,z,hz=>by simp [garTo] at hz
 | j + 1,z,hz=>by
  rw [garTo,List.mem_append] at hz
  rcases hz with hz | hz
  ·exact gar_tlabels gs hd j z hz
  ·exact garT_labels _ _ hd (gar_labels gs hd j) z hz
open Go.RowKit
theorem st_cells {w wr:World} {B:Nat} {A:Option Addr} {L:List St} (h:Cells w B A (ints (flatS L))) (hb:Below B w wr) {j:Nat} {o d a e g n:Int} (hj:L[j]? = some ⟨o,d,a,e,g,n⟩) :
  ∃ b off,A=some ⟨b,off,none⟩∧b < B∧wr.cell? ⟨b,off + j * 6,none⟩=some (.int .i64 o)∧wr.cell? ⟨b,off + j * 6 + 1,none⟩=some (.int .i64 d)∧wr.cell? ⟨b,off + j * 6 + 2,none⟩=some (.int .i64 a) ∧
   wr.cell? ⟨b,off + j * 6 + 3,none⟩=some (.int .i64 e)∧wr.cell? ⟨b,off + j * 6 + 4,none⟩=some (.int .i64 g)∧wr.cell? ⟨b,off + j * 6 + 5,none⟩=some (.int .i64 n):=by
 have hl:=(List.getElem?_eq_some_iff.1 hj).1
 obtain ⟨b,off,rfl,hB,hc⟩:=h (by rw [ints_length,flatS_length]; omega)
 have g:=fun (t:Nat) (x:Int) (hx:(sixS ⟨o,d,a,e,g,n⟩)[t]? = some x)=>(hb.cell (p:=⟨b,off + (j * 6 + t),none⟩) hB).trans (hc (j * 6 + t) _ (ints_get (flatS_at hj t x hx)))
 exact ⟨b,off,rfl,hB,g 0 _ rfl,g 1 _ rfl,g 2 _ rfl,g 3 _ rfl,g 4 _ rfl,g 5 _ rfl⟩
theorem drop_st {α:Type} {L:List α} {j:Nat} {s:α} (h:L[j]? = some s):L.drop j=s :: L.drop (j + 1):=by
 obtain ⟨hl,e⟩:=List.getElem?_eq_some_iff.1 h
 rw [List.drop_eq_getElem_cons hl,e]
theorem scan_at {k:Int} {L:List St} {j:Nat} {s:St} (h:L[j]? = some s):scanP k (L.drop j)=(stmtB s && (inB (dep s k) 0 3 && scanP (dep s k) (L.drop (j + 1)))):=by
 rw [drop_st h,scanP]
theorem prog_no {L:List St} (h:scanP 0 L=false):progB L=false:=by unfold progB; rw [h,Bool.and_false]
theorem dep_is (o d a e g n k:Int):(o=12∧dep ⟨o,d,a,e,g,n⟩ k=k + 1)∨(o≠12∧o=13∧dep ⟨o,d,a,e,g,n⟩ k=k - 1)∨(o≠12∧o≠13∧dep ⟨o,d,a,e,g,n⟩ k=k):=by
 unfold dep
 by_cases h:o=12
 ·exact .inl ⟨h,if_pos h⟩
 ·by_cases h2:o=13
  ·exact .inr (.inl ⟨h,h2,by rw [if_neg h,if_pos h2]⟩)
  ·exact .inr (.inr ⟨h,h2,by rw [if_neg h,if_neg h2]⟩)
set_option linter.unusedVariables false in
set_option maxRecDepth 100000 in
set_option maxHeartbeats 3200000 in
theorem iProgOk (A:Option Addr) (c:Nat) (L:List St) (w:World) (hc:Cells w w.heap.size A (ints (flatS L))) (hn:L.length≤1000000000) :
  Calls Tryz.prog 153 #[.slice A L.length c] w fun e w'=>e=.returned (.bool (progB L))∧Below w.heap.size w w':=by
 by_cases h40:40 < L.length
 ·have h40':(40:Int) < (L.length:Int):=by omega
  have HP:=hid (show progB L=false by unfold progB; rw [decide_eq_false (by omega)]; rfl)
  go_enter Tryz.func153,Tryz.ntmps153
  go_wp2
  go_ret
  exact ⟨by rw [HP.out]; rfl,Below.refl _ _⟩
 have h40':¬ (40:Int) < (L.length:Int):=by omega
 have HC:=hid hc
 clear hc
 go_enter Tryz.func153,Tryz.ntmps153
 go_wp2
 go_loopw [3,5,11] (fun dd _ i wr=>∃ (j:Nat) (k:Int),j≤L.length∧i=.int .i64 j∧dd=.int .i64 k∧(0≤k∧k≤3)∧scanP 0 L=scanP k (L.drop j)∧Below w.heap.size w wr) (fun _ _ i _=>L.length - (intOf i).toNat)
 case atStart=>exact ⟨0,0,Nat.zero_le _,rfl,rfl,by omega,rfl,Below.refl _ _⟩
 case round =>
  obtain ⟨j,k,hj,rfl,rfl,hk,hsc,hb⟩:=hrel
  have zb:=hb.size
  by_cases hlt:j < L.length
  ·obtain ⟨⟨o,d,a,e,g,n⟩,hx⟩:∃ s,L[j]? = some s:=⟨_,List.getElem?_eq_getElem hlt⟩
   obtain ⟨b,off,rfl,hB,d0,d1,d2,d3,d4,d5⟩:=st_cells HC.out hb hx
   have hs2:=scan_at (k:=k) hx
   have hlt':(j:Int) < (L.length:Int):=by omega
   have HS:=hid (fun w=>iStmtOk o d a e g n w)
   obtain ⟨v,hv⟩:∃ v,stmtB ⟨o,d,a,e,g,n⟩=v:=⟨_,rfl⟩
   rw [hv] at HS hs2
   have HSC:=hid (hsc.trans hs2)
   clear hx hsc hs2 hv
   have b_30:=hb
   have s_30:=b_30.size
   go_upto_region 7 with fail
   refine wp_forget1 (w0:=wr) (B:=wr.heap.size) (b0:=wr.heap.size) (t0:=73) (c0:=#[.int .i64 o,.int .i64 d,.int .i64 a,.int .i64 e,.int .i64 g,.int .i64 n]) ?_ ?_ ?_
   (focus exact blkcBy)
   (focus (exact belBy))
   intro w31 x_31 hX31
   have sX31:=hX31.size
   have x_lt:=x_31.lt
   have b_31:=b_30.trans (hX31.mono (by omega))
   clear b_30 hX31
   have cell_x:=x_31.cell
   have froz_x:=x_31.frozen
   have lt_x:=x_31.lt
   go_wp2_with fail
   refine calls_forget0 (W:=w31) ?_ ?_
   (focus (exact belBy))
   intro X32 hX32
   have sX32:=hX32.size
   refine (HS.out _).mono ?_
   rintro e w32 ⟨rfl,hb32⟩
   have s32:=hb32.size
   have hT32:=hX32.trans (hb32.mono sX32)
   have b_32:=b_31.trans (hT32.mono (by omega))
   have x_32:=Blk.past hT32 x_31
   clear x_31 b_31 cell_x froz_x lt_x hX32 hT32 hb32
   have cell_x:=x_32.cell
   have froz_x:=x_32.frozen
   have lt_x:=x_32.lt
   have HB:=hid b_32
   clear b_32 d0 d1 d2 d3 d4 d5 x_32
   cases v
   ·have HP:=hid (prog_no (HSC.out.trans (Bool.false_and _)))
    go_wp2
    go_ret
    exact ⟨by rw [HP.out]; rfl,HB.out⟩
   ·obtain ⟨q,hq⟩:∃ q,dep ⟨o,d,a,e,g,n⟩ k=q:=⟨_,rfl⟩
    have hdep:=dep_is o d a e g n k
    have HSQ:=HSC
    rw [Bool.true_and,hq] at HSQ
    rw [hq] at hdep
    have HIN:=hid (fun w=>iWithin q 0 3 w)
    obtain ⟨v,hv⟩:∃ v,inB q 0 3=v:=⟨_,rfl⟩
    rw [hv] at HIN HSQ
    have HV:=hid hv
    clear hv hq HSC
    have hw1:IntKind.i64.wrap (k + 1)=k + 1:=IntWalk.i64_in _ (by omega)
    have hw2:IntKind.i64.wrap (k - 1)=k - 1:=IntWalk.i64_in _ (by omega)
    rcases hdep with ⟨rfl,hq⟩ | ⟨h12,rfl,hq⟩ | ⟨h12,h13,hq⟩
    all_goals
     try have e1:(o == 12)=false:=by simpa using h12
     try have e2:(o == 13)=false:=by simpa using h13
     rw [hq] at HIN
     have HQ:=hid hq
     clear hq
     cases v
     ·have HP:=hid (prog_no (HSQ.out.trans (Bool.false_and _)))
      go_wp2_with (go_at_call 56; refine (HIN.out _).mono ?_; rintro e w' ⟨rfl,rfl⟩)
      go_ret
      exact ⟨by rw [HP.out]; rfl,HB.out⟩
     ·go_wp2_with (go_at_call 56; refine (HIN.out _).mono ?_; rintro e w' ⟨rfl,rfl⟩)
      go_roundw
      case rel=>exact ⟨j + 1,q,by omega,by go_num,by rw [HQ.out],inB_iff.1 HV.out,HSQ.out.trans (Bool.true_and _),HB.out⟩
      case measure=>simp [intOf]; omega
  ·obtain rfl:j=L.length:=by omega
   rw [List.drop_length] at hsc
   have HP:=hid (show progB L=(k == 0) by unfold progB; rw [hsc,decide_eq_true (by omega)]; rfl)
   have HB:=hid hb
   clear hsc hb
   cases h0:(k == 0)
   all_goals
    go_wp2
    go_ret
    exact ⟨by rw [HP.out,h0]; rfl,HB.out⟩
set_option linter.unusedVariables false in
set_option maxRecDepth 100000 in
set_option maxHeartbeats 3200000 in
theorem sProgOk (A:Option Addr) (c:Nat) (L:List St) (w:World) (hc:Cells w w.heap.size A (ints (flatS L))) (hn:L.length≤1000000000) :
  Calls Tryz.prog 149 #[.slice A L.length c] w fun e w'=>e=.returned (.bool (progB L))∧Below w.heap.size w w':=by
 have HC:=hid hc
 clear hc
 go_enter Tryz.func149,Tryz.ntmps149
 go_wp2
 go_loopw [3,4] (fun dd i wr=>∃ (j:Nat) (k:Int),j≤L.length∧i=.int .i64 j∧dd=.int .i64 k∧(0≤k∧k≤3)∧scanP 0 L=scanP k (L.drop j)∧Below w.heap.size w wr) (fun _ i _=>L.length - (intOf i).toNat)
 case atStart=>exact ⟨0,0,Nat.zero_le _,rfl,rfl,by omega,rfl,Below.refl _ _⟩
 case round =>
  obtain ⟨j,k,hj,rfl,rfl,hk,hsc,hb⟩:=hrel
  have zb:=hb.size
  by_cases hlt:j < L.length
  ·obtain ⟨⟨o,d,a,e,g,n⟩,hx⟩:∃ s,L[j]? = some s:=⟨_,List.getElem?_eq_getElem hlt⟩
   obtain ⟨b,off,rfl,hB,d0,d1,d2,d3,d4,d5⟩:=st_cells HC.out hb hx
   have hs2:=scan_at (k:=k) hx
   have hlt':(j:Int) < (L.length:Int):=by omega
   have hbz:b < wr.heap.size:=by omega
   have HS:=hid (fun w=>sStmtOk o d a e g n w)
   obtain ⟨v,hv⟩:∃ v,stmtB ⟨o,d,a,e,g,n⟩=v:=⟨_,rfl⟩
   rw [hv] at HS hs2
   have HSC:=hid (hsc.trans hs2)
   clear hx hsc hs2 hv
   have b_30:=hb
   have s_30:=b_30.size
   have q0_30:=d0
   clear d0
   have lt_q0:b < wr.heap.size:=by omega
   go_wp2_with fail
   refine calls_forget0 (W:=wr) ?_ ?_
   (focus (exact belBy))
   intro X31 hX31
   have sX31:=hX31.size
   refine (HS.out _).mono ?_
   rintro e w31 ⟨rfl,hb31⟩
   have s31:=hb31.size
   have hT31:=hX31.trans (hb31.mono sX31)
   have b_31:=b_30.trans (hT31.mono (by omega))
   have q0_31:=cell_kept q0_30 hT31 (by dsimp only; omega)
   clear q0_30 b_30 lt_q0 hX31 hT31 hb31
   have lt_q0:b < w31.heap.size:=(by omega)
   have HB:=hid b_31
   clear b_31 d1 d2 d3 d4 d5
   cases v
   ·have HP:=hid (prog_no (HSC.out.trans (Bool.false_and _)))
    go_wp2
    go_ret
    exact ⟨by rw [HP.out]; rfl,HB.out⟩
   ·obtain ⟨q,hq⟩:∃ q,dep ⟨o,d,a,e,g,n⟩ k=q:=⟨_,rfl⟩
    have hdep:=dep_is o d a e g n k
    have HSQ:=HSC
    rw [Bool.true_and,hq] at HSQ
    rw [hq] at hdep
    have HIN:=hid (fun w=>sWithin q 0 3 w)
    obtain ⟨v,hv⟩:∃ v,inB q 0 3=v:=⟨_,rfl⟩
    rw [hv] at HIN HSQ
    have HV:=hid hv
    clear hv hq HSC
    have hw1:IntKind.i64.wrap (k + 1)=k + 1:=IntWalk.i64_in _ (by omega)
    have hw2:IntKind.i64.wrap (k - 1)=k - 1:=IntWalk.i64_in _ (by omega)
    rcases hdep with ⟨rfl,hq⟩ | ⟨h12,rfl,hq⟩ | ⟨h12,h13,hq⟩
    all_goals
     try have e1:(o == 12)=false:=by simpa using h12
     try have e2:(o == 13)=false:=by simpa using h13
     rw [hq] at HIN
     have HQ:=hid hq
     clear hq
     cases v
     ·have HP:=hid (prog_no (HSQ.out.trans (Bool.false_and _)))
      go_wp2_with (go_at_call 123; refine (HIN.out _).mono ?_; rintro e w' ⟨rfl,rfl⟩)
      go_ret
      exact ⟨by rw [HP.out]; rfl,HB.out⟩
     ·go_wp2_with (go_at_call 123; refine (HIN.out _).mono ?_; rintro e w' ⟨rfl,rfl⟩)
      go_roundw
      case rel=>exact ⟨j + 1,q,by omega,by go_num,by rw [HQ.out],inB_iff.1 HV.out,HSQ.out.trans (Bool.true_and _),HB.out⟩
      case measure=>simp [intOf]; omega
  ·obtain rfl:j=L.length:=by omega
   rw [List.drop_length] at hsc
   have HP:=hid (show progB L=(k == 0 && decide (L.length≤40)) by unfold progB; rw [hsc,Bool.and_comm]; rfl)
   have HB:=hid hb
   clear hsc hb
   cases h0:(k == 0)
   ·go_wp2
    go_ret
    exact ⟨by rw [HP.out,h0]; rfl,HB.out⟩
   ·by_cases h40:L.length≤40
    ·have h40':(L.length:Int)≤40:=by omega
     go_wp2
     go_ret
     exact ⟨by rw [HP.out,h0,decide_eq_true h40]; rfl,HB.out⟩
    ·have h40':¬ (L.length:Int)≤40:=by omega
     go_wp2
     go_ret
     exact ⟨by rw [HP.out,h0,decide_eq_false h40]; rfl,HB.out⟩
theorem mt_at {k:Int} {L:List St} {j:Nat} {s:St} (h:L[j]? = some s):mt k (L.drop j)=if s.o=12 then 1 + mt (k + 1) (L.drop (j + 1)) else if s.o=13 then (if k - 1=0 then 0 else 1 + mt (k - 1) (L.drop (j + 1))) else 1 + mt k (L.drop (j + 1)):=by
 rw [drop_st h,mt]
set_option linter.unusedVariables false in
set_option maxRecDepth 100000 in
set_option maxHeartbeats 3200000 in
theorem iMatching (A:Option Addr) (c:Nat) (L:List St) (i:Nat) (w:World) (hc:Cells w w.heap.size A (ints (flatS L))) (hn:L.length≤1000000) (hi:i≤L.length) :
  Calls Tryz.prog 185 #[.slice A L.length c,.int .i64 i] w fun e w'=>e=.returned (.int .i64 ((i + mt 0 (L.drop i):Nat):Int))∧w=w':=by
 have HC:=hid hc
 clear hc
 go_enter Tryz.func185,Tryz.ntmps185
 go_wp2
 go_loop [5,6] (fun dd x=>∃ (j:Nat) (k:Int),j≤L.length∧x=.int .i64 j∧dd=.int .i64 k∧(-(j:Int)≤k∧k≤j)∧i + mt 0 (L.drop i)=j + mt k (L.drop j)) (fun _ x=>L.length - (intOf x).toNat)
 case atStart=>exact ⟨i,0,hi,rfl,rfl,by omega,rfl⟩
 case round =>
  obtain ⟨j,k,hj,rfl,rfl,hk,hm⟩:=hrel
  by_cases hlt:j < L.length
  ·obtain ⟨⟨o,d,a,e,g,n⟩,hx⟩:∃ s,L[j]? = some s:=⟨_,List.getElem?_eq_getElem hlt⟩
   obtain ⟨b,off,rfl,hB,d0,_,_,_,_,_⟩:=st_cells HC.out (Below.refl _ _) hx
   have hm2:=mt_at (k:=k) hx
   dsimp only at hm2
   have hlt':(j:Int) < (L.length:Int):=by omega
   have hw1:IntKind.i64.wrap (k + 1)=k + 1:=IntWalk.i64_in _ (by omega)
   have hw2:IntKind.i64.wrap (k - 1)=k - 1:=IntWalk.i64_in _ (by omega)
   clear hx
   by_cases h12:o=12
   ·subst h12
    rw [if_pos rfl] at hm2
    have HM:=hid (show i + mt 0 (L.drop i)=(j + 1) + mt (k + 1) (L.drop (j + 1)) by omega)
    clear hm hm2
    go_wp2
    go_round
    case rel=>exact ⟨j + 1,k + 1,by omega,by go_num,rfl,by omega,HM.out⟩
    case measure=>simp [intOf]; omega
   ·have e1:(o == 12)=false:=by simpa using h12
    rw [if_neg h12] at hm2
    by_cases h13:o=13
    ·subst h13
     rw [if_pos rfl] at hm2
     cases h1:(k - 1 == 0)
     ·rw [if_neg (by simpa using h1)] at hm2
      have HM:=hid (show i + mt 0 (L.drop i)=(j + 1) + mt (k - 1) (L.drop (j + 1)) by omega)
      clear hm hm2
      go_wp2
      go_round
      case rel=>exact ⟨j + 1,k - 1,by omega,by go_num,rfl,by omega,HM.out⟩
      case measure=>simp [intOf]; omega
     ·rw [if_pos (by simpa using h1)] at hm2
      have HM:=hid (show i + mt 0 (L.drop i)=j by omega)
      clear hm hm2
      go_wp2
      go_ret
      exact ⟨(congrArg (fun q:Nat=>Ending.returned (.int .i64 (q:Int))) HM.out).symm,rfl⟩
    ·have e2:(o == 13)=false:=by simpa using h13
     rw [if_neg h13] at hm2
     have HM:=hid (show i + mt 0 (L.drop i)=(j + 1) + mt k (L.drop (j + 1)) by omega)
     clear hm hm2
     go_wp2
     go_round
     case rel=>exact ⟨j + 1,k,by omega,by go_num,rfl,by omega,HM.out⟩
     case measure=>simp [intOf]; omega
  ·obtain rfl:j=L.length:=by omega
   rw [List.drop_length,mt] at hm
   have HM:=hid hm
   clear hm
   go_wp2
   go_ret
   exact ⟨(congrArg (fun q:Nat=>Ending.returned (.int .i64 (q:Int))) HM.out).symm,rfl⟩
open Go.RowKit
theorem gateB_1 (a b n:Int):gateB ⟨1,a,b⟩ n=(inB a 0 79 && b == 0):=rfl
theorem gateB_2 (a b n:Int):gateB ⟨2,a,b⟩ n=(inB a 0 1 && b == 0):=rfl
theorem gateB_3 (a b n:Int):gateB ⟨3,a,b⟩ n=(inB a 0 (n - 1) && inB b 0 (n - 1)):=rfl
theorem gateB_4 (a b n:Int):gateB ⟨4,a,b⟩ n=(inB a 0 (n - 1) && inB b 0 (n - 1)):=rfl
theorem gateB_5 (a b n:Int):gateB ⟨5,a,b⟩ n=(inB a 0 (n - 1) && b == 0):=rfl
theorem gateB_x {k:Int} (a b n:Int) (h1:k≠1) (h2:k≠2) (h3:k≠3) (h4:k≠4) (h5:k≠5):gateB ⟨k,a,b⟩ n=false:=by
 unfold gateB
 dsimp only
 rw [if_neg h1,if_neg h2,if_neg (by omega),if_neg h5]
theorem wire_ways (a:Int) (n:Nat):(0≤a∧a < n∧inB a 0 ((n:Int) - 1)=true)∨(0≤a∧¬ a < n∧inB a 0 ((n:Int) - 1)=false)∨(¬ 0≤a∧True∧inB a 0 ((n:Int) - 1)=false):=by
 by_cases h0:0≤a
 ·by_cases h1:a < n
  ·exact .inl ⟨h0,h1,inB_iff.2 (by omega)⟩
  ·exact .inr (.inl ⟨h0,h1,inB_no.2 (by omega)⟩)
 ·exact .inr (.inr ⟨h0,trivial,inB_no.2 (by omega)⟩)
set_option linter.unusedVariables false in
set_option maxRecDepth 100000 in
set_option maxHeartbeats 6400000 in
theorem iGateOk (k a b:Int) (n:Nat) (w:World) :
  Calls Tryz.prog 171 #[.agg #[.int .i64 k,.int .i64 a,.int .i64 b],.int .i64 (n:Int)] w fun e w'=>e=.returned (.bool (gateB ⟨k,a,b⟩ n))∧Below w.heap.size w w':=by
 by_cases h1:k=1
 ·subst h1
  rcases wire_ways a n with ⟨a0,a1,a2⟩ | ⟨a0,a1,a2⟩ | ⟨a0,a1,a2⟩
  all_goals
   rcases wire_ways b n with ⟨b0,b1,b2⟩ | ⟨b0,b1,b2⟩ | ⟨b0,b1,b2⟩
   all_goals
    have HA:=hid a2
    have HB:=hid b2
    clear a2 b2
    cases h1:inB a 0 79; rotate_left
    cases h2:(b == 0)
    all_goals
     go_enter Tryz.func171,Tryz.ntmps171
     go_wp2_with (go_at_call 56; refine (iWithin _ _ _ _).mono ?_; rintro e w' ⟨rfl,rfl⟩)
     go_ret
     refine ⟨ret_bool (by rw [gateB_1]; simp [*]),?_⟩
     exact belBy
 by_cases h2:k=2
 ·subst h2
  rcases wire_ways a n with ⟨a0,a1,a2⟩ | ⟨a0,a1,a2⟩ | ⟨a0,a1,a2⟩
  all_goals
   rcases wire_ways b n with ⟨b0,b1,b2⟩ | ⟨b0,b1,b2⟩ | ⟨b0,b1,b2⟩
   all_goals
    have HA:=hid a2
    have HB:=hid b2
    clear a2 b2
    cases h1:inB a 0 1; rotate_left
    cases h2:(b == 0)
    all_goals
     go_enter Tryz.func171,Tryz.ntmps171
     go_wp2_with (go_at_call 56; refine (iWithin _ _ _ _).mono ?_; rintro e w' ⟨rfl,rfl⟩)
     go_ret
     refine ⟨ret_bool (by rw [gateB_2]; simp [*]),?_⟩
     exact belBy
 by_cases h3:k=3
 ·subst h3
  rcases wire_ways a n with ⟨a0,a1,a2⟩ | ⟨a0,a1,a2⟩ | ⟨a0,a1,a2⟩
  all_goals
   rcases wire_ways b n with ⟨b0,b1,b2⟩ | ⟨b0,b1,b2⟩ | ⟨b0,b1,b2⟩
   all_goals
    have HA:=hid a2
    have HB:=hid b2
    clear a2 b2
    go_enter Tryz.func171,Tryz.ntmps171
    go_wp2
    go_ret
    refine ⟨ret_bool (by rw [gateB_3,HA.out,HB.out]; rfl),?_⟩
    exact belBy
 by_cases h4:k=4
 ·subst h4
  rcases wire_ways a n with ⟨a0,a1,a2⟩ | ⟨a0,a1,a2⟩ | ⟨a0,a1,a2⟩
  all_goals
   rcases wire_ways b n with ⟨b0,b1,b2⟩ | ⟨b0,b1,b2⟩ | ⟨b0,b1,b2⟩
   all_goals
    have HA:=hid a2
    have HB:=hid b2
    clear a2 b2
    go_enter Tryz.func171,Tryz.ntmps171
    go_wp2
    go_ret
    refine ⟨ret_bool (by rw [gateB_4,HA.out,HB.out]; rfl),?_⟩
    exact belBy
 by_cases h5:k=5
 ·subst h5
  rcases wire_ways a n with ⟨a0,a1,a2⟩ | ⟨a0,a1,a2⟩ | ⟨a0,a1,a2⟩
  all_goals
   rcases wire_ways b n with ⟨b0,b1,b2⟩ | ⟨b0,b1,b2⟩ | ⟨b0,b1,b2⟩
   all_goals
    have HA:=hid a2
    clear a2 b2
    cases h2:(b == 0)
    all_goals
     have HB:=hid h2
     go_enter Tryz.func171,Tryz.ntmps171
     go_wp2
     go_ret
     refine ⟨ret_bool (by rw [gateB_5,HA.out,HB.out]; rfl),?_⟩
     exact belBy
 have HX:=hid (gateB_x a b n h1 h2 h3 h4 h5)
 have e1:(k == 1)=false:=by simpa using h1
 have e2:(k == 2)=false:=by simpa using h2
 have e3:(k == 3)=false:=by simpa using h3
 have e4:(k == 4)=false:=by simpa using h4
 have e5:(k == 5)=false:=by simpa using h5
 clear h1 h2 h3 h4 h5
 rcases wire_ways a n with ⟨a0,a1,a2⟩ | ⟨a0,a1,a2⟩ | ⟨a0,a1,a2⟩
 all_goals
  rcases wire_ways b n with ⟨b0,b1,b2⟩ | ⟨b0,b1,b2⟩ | ⟨b0,b1,b2⟩
  all_goals
   clear a2 b2
   go_enter Tryz.func171,Tryz.ntmps171
   go_wp2
   go_ret
   refine ⟨ret_bool (by rw [HX.out]),?_⟩
   exact belBy
end Go.Proofs.YtihbaieiempjeaaGreat
