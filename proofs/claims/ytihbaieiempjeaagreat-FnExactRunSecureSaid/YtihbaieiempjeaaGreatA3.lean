/- Lemmas of the proof: Opt, Ands, Gar, GarS, GarL, Pg, Rw, StmtI. -/
import Derived.Test.YtihbaieiempjeaaGreatA2
import Derived.Test.YtihbaieiempjeaaGreatA0
import Derived.Deep.DeepCutAuto
namespace Go.Proofs.YtihbaieiempjeaaGreat
open Go.RowKit
def eqGt (a b:Gt):Bool:=a.k == b.k && (a.a == b.a && a.b == b.b)
theorem eqGt_iff {a b:Gt}:eqGt a b=true↔a=b:=by
 obtain ⟨k,x,y⟩:=a
 obtain ⟨k',x',y'⟩:=b
 simp [eqGt]
def findG:List Gt→Gt→Nat
 | [],_=>0
 | h :: r,g=>if eqGt h g=true then 0 else findG r g + 1
theorem findG_le:∀ (l:List Gt) (g:Gt),findG l g≤l.length
 | [],_=>Nat.le_refl _
 | h :: r,g=>by
  have:=findG_le r g
  unfold findG
  split
  ·simp
  ·simp only [List.length_cons]; omega
theorem findG_lt:∀ {l:List Gt} {g:Gt},findG l g < l.length→l[findG l g]? = some g
 | [],_,h=>absurd h (by simp [findG])
 | x :: r,g,h=>by
  unfold findG at h ⊢
  split
  ·next he=>rw [eqGt_iff.1 he]; rfl
  ·next he =>
   rw [if_neg he] at h
   simp only [List.length_cons] at h
   have:=findG_lt (l:=r) (g:=g) (by omega)
   simpa using this
theorem findG_first:∀ {l:List Gt} {g:Gt} {i:Nat},i < findG l g→l[i]?≠some g
 | [],_,i,h=>absurd h (by simp [findG])
 | x :: r,g,i,h=>by
  unfold findG at h
  split at h
  ·omega
  ·next he =>
   cases i with
   | zero =>
    intro e
    injection e with e
    exact he (eqGt_iff.2 e)
   | succ i=>simpa using findG_first (l:=r) (g:=g) (i:=i) (by omega)
theorem findG_none {l:List Gt} {g:Gt} (h:¬ findG l g < l.length):∀ i:Nat,l[i]?≠some g:=fun i e=>by
 have hl:=findG_le l g
 have hi:=(List.getElem?_eq_some_iff.1 e).1
 exact findG_first (by omega) e
theorem findG_at {l:List Gt} {g:Gt} {i:Nat} (h:l[i]? = some g):findG l g≤i:=by
 rcases Nat.lt_or_ge i (findG l g) with h1 | h1
 ·exact absurd h (findG_first h1)
 ·exact h1
theorem findG_len {l:List Gt} {g:Gt} (h:¬ findG l g < l.length):findG l g=l.length:=by
 have:=findG_le l g
 omega
def putG (gs:List Gt) (g:Gt):List Gt:=if findG gs g < gs.length then gs else gs ++ [g]
def put2 (gs:List Gt) (g:Gt):List Gt × Int:=(putG gs g,(findG gs g:Int))
def gtAt (gs:List Gt) (w:Int):Gt:=gs.getD w.toNat ⟨0,0,0⟩
def valG (gs:List Gt) (w:Int):Int:=if (gtAt gs w).k=2 then (gtAt gs w).a else -1
def negG (gs:List Gt) (w:Int):List Gt × Int :=
 if (gtAt gs w).k=2 then put2 gs ⟨2,1 - (gtAt gs w).a,0⟩
 else if (gtAt gs w).k=5 then (gs,(gtAt gs w).a)
 else put2 gs ⟨5,w,0⟩
def halfG (gs:List Gt) (k a b:Int) (o:List Gt × Int):List Gt × Int :=
 if valG gs a=0∧k=3∨valG gs a=1∧k=4 then (gs,b)
 else if valG gs a=1 then negG gs b
 else if valG gs a=0 then put2 gs ⟨2,0,0⟩
 else o
def binG (gs:List Gt) (k a b:Int):List Gt × Int :=
 if a=b then (if k=4 then (gs,a) else put2 gs ⟨2,0,0⟩)
 else halfG gs k a b (halfG gs k b a (put2 gs ⟨k,min a b,max a b⟩))
def simpP (gs:List Gt) (tw:List Int) (g:Gt):List Gt × Int :=
 if g.k=3∨g.k=4 then binG gs g.k (tw.getD g.a.toNat 0) (tw.getD g.b.toNat 0)
 else if g.k=5 then negG gs (tw.getD g.a.toNat 0)
 else put2 gs ⟨g.k,g.a,0⟩
def simpS (st:List Gt × List Int) (g:Gt):List Gt × List Int:=((simpP st.1 st.2 g).1,st.2 ++ [(simpP st.1 st.2 g).2])
def simpTo (gs:List Gt):List Gt × List Int:=gs.foldl simpS ([],[])
def mapO (tw:List Int) (os:List Int):List Int:=os.map fun w=>tw.getD w.toNat 0
def simpC (gs:List Gt) (os:List Int):List Gt × List Int:=if circB gs os=true then ((simpTo gs).1,mapO (simpTo gs).2 os) else (gs,os)
theorem simpTo_snoc (gs:List Gt) (g:Gt):simpTo (gs ++ [g])=simpS (simpTo gs) g:=by simp [simpTo]
def live0 (n:Nat) (os:List Int):List Bool:=os.foldl (fun L w=>L.set w.toNat true) (List.replicate n false)
def liveP (g:Gt) (L:List Bool):List Bool :=
 if g.k=3∨g.k=4 then (L.set g.a.toNat true).set g.b.toNat true else if g.k=5 then L.set g.a.toNat true else L
def liveS (gs:List Gt) (L:List Bool) (i:Nat):List Bool:=if L.getD i false=true then liveP (gs.getD i ⟨0,0,0⟩) L else L
def liveTo (gs:List Gt) (L:List Bool):Nat→List Bool
 | 0=>L
 | i + 1=>liveTo gs (liveS gs L i) i
def liveG (gs:List Gt) (os:List Int):List Bool:=liveTo gs (live0 gs.length os) gs.length
def reG (tw:List Int) (g:Gt):Gt :=
 if g.k=3∨g.k=4 then ⟨g.k,tw.getD g.a.toNat 0,tw.getD g.b.toNat 0⟩ else if g.k=5 then ⟨g.k,tw.getD g.a.toNat 0,g.b⟩ else g
def prS (gs:List Gt) (L:List Bool) (st:List Gt × List Int) (i:Nat):List Gt × List Int :=
 if L.getD i false=true then (st.1 ++ [reG st.2 (gs.getD i ⟨0,0,0⟩)],st.2.set i (st.1.length:Int)) else st
def prTo (gs:List Gt) (L:List Bool):Nat→List Gt × List Int
 | 0=>([],List.replicate gs.length 0)
 | i + 1=>prS gs L (prTo gs L i) i
def prunC (gs:List Gt) (os:List Int):List Gt × List Int :=
 if circB gs os=true then ((prTo gs (liveG gs os) gs.length).1,mapO (prTo gs (liveG gs os) gs.length).2 os) else (gs,os)
def optC (gs:List Gt) (os:List Int):List Gt × List Int:=prunC (simpC gs os).1 (simpC gs os).2
def Apart (gs:List Gt):Prop:=∀ (i j:Nat) (g:Gt),gs[i]? = some g→gs[j]? = some g→i=j
theorem apart_put {gs:List Gt} (h:Apart gs) (g:Gt):Apart (putG gs g):=by
 unfold putG
 split
 ·exact h
 ·next hn =>
  have hno:=findG_none hn
  intro i j x hi hj
  have hil:=(List.getElem?_eq_some_iff.1 hi).1
  have hjl:=(List.getElem?_eq_some_iff.1 hj).1
  rw [List.length_append,List.length_singleton] at hil hjl
  by_cases h1:i < gs.length
  ·rw [List.getElem?_append_left h1] at hi
   by_cases h2:j < gs.length
   ·rw [List.getElem?_append_left h2] at hj
    exact h i j x hi hj
   ·obtain rfl:j=gs.length:=by omega
    simp at hj
    subst hj
    exact absurd hi (hno i)
  ·obtain rfl:i=gs.length:=by omega
   simp at hi
   subst hi
   by_cases h2:j < gs.length
   ·rw [List.getElem?_append_left h2] at hj
    exact absurd hj (hno j)
   ·omega
theorem put_le (gs:List Gt) (g:Gt):gs.length≤(putG gs g).length∧(putG gs g).length≤gs.length + 1∧findG gs g < (putG gs g).length:=by
 have:=findG_le gs g
 unfold putG
 split
 ·omega
 ·simp; omega
structure OkP (gs:List Gt) (p:List Gt × Int):Prop where
 g:gatesB 0 p.1=true
 ap:Apart p.1
 lo:gs.length≤p.1.length
 hi:p.1.length≤gs.length + 1
 w:wireB p.1.length p.2=true
theorem put_ok {gs:List Gt} {g:Gt} (h:gatesB 0 gs=true) (ha:Apart gs) (hg:gateB g gs.length=true):OkP gs (put2 gs g):=by
 have hl:=put_le gs g
 refine ⟨?_,apart_put ha g,hl.1,hl.2.1,wire_at hl.2.2⟩
 show gatesB 0 (putG gs g)=true
 unfold putG
 split
 ·exact h
 ·exact gatesB_snoc h hg
theorem same_ok {gs:List Gt} {w:Int} (h:gatesB 0 gs=true) (ha:Apart gs) (hw:wireB gs.length w=true):OkP gs (gs,w):=⟨h,ha,Nat.le_refl _,Nat.le_succ _,hw⟩
theorem gt_at {gs:List Gt} {w:Int} (hw:wireB gs.length w=true):gs[w.toNat]? = some (gtAt gs w):=by
 have:=wireB_iff.1 hw
 unfold gtAt
 rw [List.getD_eq_getElem?_getD,List.getElem?_eq_getElem (by omega)]
 rfl
theorem gt_ok {gs:List Gt} {w:Int} (h:gatesB 0 gs=true) (hw:wireB gs.length w=true):gateB (gtAt gs w) w=true:=by
 have h1:=gatesB_at h (gt_at hw)
 have:=wireB_iff.1 hw
 rw [show ((0 + w.toNat:Nat):Int)=w by omega] at h1
 exact h1
theorem gate_is2 {g:Gt} {n:Int} (h:gateB g n=true) (hk:g.k=2):(g.a=0∨g.a=1)∧g.b=0:=by
 unfold gateB at h
 rw [if_neg (by omega),if_pos hk] at h
 simp only [Bool.and_eq_true,inB_iff,beq_iff_eq] at h
 omega
theorem gate_is1 {g:Gt} {n:Int} (h:gateB g n=true) (hk:g.k=1):(0≤g.a∧g.a≤79)∧g.b=0:=by
 unfold gateB at h
 rw [if_pos hk] at h
 simp only [Bool.and_eq_true,inB_iff,beq_iff_eq] at h
 omega
theorem gate_is5 {g:Gt} {n:Int} (h:gateB g n=true) (hk:g.k=5):(0≤g.a∧g.a < n)∧g.b=0:=by
 unfold gateB at h
 rw [if_neg (by omega),if_neg (by omega),if_neg (by omega),if_pos hk] at h
 simp only [Bool.and_eq_true,inB_iff,beq_iff_eq] at h
 omega
theorem gate_is34 {g:Gt} {n:Int} (h:gateB g n=true) (hk:g.k=3∨g.k=4):(0≤g.a∧g.a < n)∧(0≤g.b∧g.b < n):=by
 unfold gateB at h
 rw [if_neg (by omega),if_neg (by omega),if_pos hk] at h
 simp only [Bool.and_eq_true,inB_iff] at h
 omega
theorem gate_kind {g:Gt} {n:Int} (h:gateB g n=true):g.k=1∨g.k=2∨g.k=3∨g.k=4∨g.k=5:=by
 unfold gateB at h
 by_cases h1:g.k=1
 ·exact .inl h1
 by_cases h2:g.k=2
 ·exact .inr (.inl h2)
 by_cases h3:g.k=3∨g.k=4
 ·rcases h3 with h3 | h3
  ·exact .inr (.inr (.inl h3))
  ·exact .inr (.inr (.inr (.inl h3)))
 by_cases h5:g.k=5
 ·exact .inr (.inr (.inr (.inr h5)))
 rw [if_neg h1,if_neg h2,if_neg h3,if_neg h5] at h
 cases h
theorem neg_ok {gs:List Gt} {w:Int} (h:gatesB 0 gs=true) (ha:Apart gs) (hw:wireB gs.length w=true):OkP gs (negG gs w):=by
 have hg:=gt_ok h hw
 have hw':=wireB_iff.1 hw
 unfold negG
 by_cases h2:(gtAt gs w).k=2
 ·rw [if_pos h2]
  have:=gate_is2 hg h2
  exact put_ok h ha (gate2 (by omega))
 rw [if_neg h2]
 by_cases h5:(gtAt gs w).k=5
 ·rw [if_pos h5]
  have:=gate_is5 hg h5
  exact same_ok h ha (wireB_iff.2 (by omega))
 rw [if_neg h5]
 exact put_ok h ha (gate5 hw)
theorem half_ok {gs:List Gt} {k a b:Int} {o:List Gt × Int} (h:gatesB 0 gs=true) (ha:Apart gs) (hb:wireB gs.length b=true) (ho:OkP gs o):OkP gs (halfG gs k a b o):=by
 unfold halfG
 split
 ·exact same_ok h ha hb
 split
 ·exact neg_ok h ha hb
 split
 ·exact put_ok h ha (gate2 (.inl rfl))
 ·exact ho
theorem bin_ok {gs:List Gt} {k a b:Int} (hk:k=3∨k=4) (h:gatesB 0 gs=true) (ha:Apart gs) (wa:wireB gs.length a=true) (wb:wireB gs.length b=true):OkP gs (binG gs k a b):=by
 unfold binG
 split
 ·split
  ·exact same_ok h ha wa
  ·exact put_ok h ha (gate2 (.inl rfl))
 ·refine half_ok h ha wb (half_ok h ha wa (put_ok h ha (gate3 hk ?_ ?_)))
  ·have h1:=wireB_iff.1 wa
   have h2:=wireB_iff.1 wb
   exact wireB_iff.2 (by omega)
  ·have h1:=wireB_iff.1 wa
   have h2:=wireB_iff.1 wb
   exact wireB_iff.2 (by omega)
structure OkS (st:List Gt × List Int) (k:Nat):Prop where
 g:gatesB 0 st.1=true
 ap:Apart st.1
 hi:st.1.length≤k
 tl:st.2.length=k
 t:∀ w∈st.2,wireB st.1.length w=true
theorem OkS.at_ {st:List Gt × List Int} {k:Nat} (h:OkS st k) {x:Int} (hx:0≤x∧x < k):st.2[x.toNat]? = some (st.2.getD x.toNat 0)∧wireB st.1.length (st.2.getD x.toNat 0)=true:=by
 have hl:=h.tl
 have e:st.2[x.toNat]? = some (st.2.getD x.toNat 0):=by
  rw [List.getD_eq_getElem?_getD,List.getElem?_eq_getElem (by omega)]
  rfl
 exact ⟨e,h.t _ (List.mem_of_getElem? e)⟩
theorem simpP_ok {st:List Gt × List Int} {k:Nat} (h:OkS st k) {g:Gt} (hg:gateB g k=true):OkP st.1 (simpP st.1 st.2 g):=by
 unfold simpP
 by_cases h34:g.k=3∨g.k=4
 ·rw [if_pos h34]
  have:=gate_is34 hg h34
  exact bin_ok h34 h.g h.ap (h.at_ this.1).2 (h.at_ this.2).2
 rw [if_neg h34]
 by_cases h5:g.k=5
 ·rw [if_pos h5]
  exact neg_ok h.g h.ap (h.at_ (gate_is5 hg h5).1).2
 rw [if_neg h5]
 refine put_ok h.g h.ap ?_
 rcases gate_kind hg with h1 | h1 | h1 | h1 | h1
 ·have:=gate_is1 hg h1
  unfold gateB
  dsimp only
  rw [if_pos h1,inB_iff.2 (by omega)]
  rfl
 ·have:=gate_is2 hg h1
  rw [h1]
  exact gate2 (by omega)
 ·exact absurd (.inl h1) h34
 ·exact absurd (.inr h1) h34
 ·exact absurd h1 h5
theorem simpS_ok {st:List Gt × List Int} {k:Nat} (h:OkS st k) {g:Gt} (hg:gateB g k=true):OkS (simpS st g) (k + 1):=by
 have hp:=simpP_ok h hg
 have hh:=h.hi
 have hph:=hp.hi
 refine ⟨hp.g,hp.ap,by show (simpP st.1 st.2 g).1.length≤_; omega,by simp [simpS,h.tl],fun w hw=>?_⟩
 rcases List.mem_append.1 hw with hw | hw
 ·exact wireB_mono (h.t w hw) hp.lo
 ·simp at hw
  subst hw
  exact hp.w
theorem simp_take {gs:List Gt} (h:gatesB 0 gs=true):∀ k,k≤gs.length→OkS (simpTo (gs.take k)) k
 | 0,_=>⟨rfl,fun i j g hi=>by simp [simpTo] at hi,Nat.le_refl _,rfl,fun w hw=>by simp [simpTo] at hw⟩
 | k + 1,hk=>by
  have hk':k < gs.length:=by omega
  rw [List.take_succ_eq_append_getElem hk',simpTo_snoc]
  have hg:=gatesB_at h (List.getElem?_eq_getElem hk')
  rw [Nat.zero_add] at hg
  exact simpS_ok (simp_take h k (by omega)) hg
theorem simp_all {gs:List Gt} (h:gatesB 0 gs=true):OkS (simpTo gs) gs.length:=by
 have:=simp_take h gs.length (Nat.le_refl _)
 rwa [List.take_length] at this
theorem circ_parts {gs:List Gt} {os:List Int} (h:circB gs os=true):gs.length≤6000∧gatesB 0 gs=true∧outsB gs.length os=true:=by
 unfold circB at h
 simp only [Bool.and_eq_true,decide_eq_true_eq] at h
 exact h
theorem circ_mk {gs:List Gt} {os:List Int} (h1:gs.length≤6000) (h2:gatesB 0 gs=true) (h3:outsB gs.length os=true):circB gs os=true:=by
 unfold circB
 rw [decide_eq_true h1,h2,h3]
 rfl
theorem outs_wire {n:Nat} {os:List Int} (h:outsB n os=true):∀ w∈os,wireB n w=true:=fun w hw=>List.all_eq_true.1 h w hw
theorem simp_valid {gs:List Gt} {os:List Int} (h:circB gs os=true):circB (simpC gs os).1 (simpC gs os).2=true:=by
 obtain ⟨h1,h2,h3⟩:=circ_parts h
 have hs:=simp_all h2
 unfold simpC
 rw [if_pos h]
 have hh:=hs.hi
 refine circ_mk (by show (simpTo gs).1.length≤_; omega) hs.g ?_
 refine List.all_eq_true.2 fun w hw=>?_
 obtain ⟨x,hx,rfl⟩:=List.mem_map.1 hw
 have:=wireB_iff.1 (outs_wire h3 x hx)
 exact (hs.at_ (by omega)).2
theorem liveP_length (g:Gt) (L:List Bool):(liveP g L).length=L.length:=by
 unfold liveP
 split
 ·simp
 split
 ·simp
 ·rfl
theorem liveS_length (gs:List Gt) (L:List Bool) (i:Nat):(liveS gs L i).length=L.length:=by
 unfold liveS
 split
 ·exact liveP_length _ _
 ·rfl
theorem liveTo_length (gs:List Gt):∀ (i:Nat) (L:List Bool),(liveTo gs L i).length=L.length
 | 0,_=>rfl
 | i + 1,L=>by rw [liveTo,liveTo_length gs i,liveS_length]
theorem live0_length (n:Nat) (os:List Int):(live0 n os).length=n:=by
 unfold live0
 have:∀ (os:List Int) (L:List Bool),(os.foldl (fun L w=>L.set w.toNat true) L).length=L.length:=fun os=>by
  induction os with
  | nil=>intro L; rfl
  | cons w os ih=>intro L; rw [List.foldl_cons,ih,List.length_set]
 rw [this,List.length_replicate]
theorem liveG_length (gs:List Gt) (os:List Int):(liveG gs os).length=gs.length:=by rw [liveG,liveTo_length,live0_length]
theorem set_true {L:List Bool} {i j:Nat} (h:L.getD j false=true):(L.set i true).getD j false=true:=by
 rw [List.getD_eq_getElem?_getD] at h ⊢
 rw [List.getElem?_set]
 split
 ·next e =>
  subst e
  split
  ·rfl
  ·next hl =>
   rw [List.getElem?_eq_none (by omega)] at h
   cases h
 ·exact h
theorem set_self {L:List Bool} {i:Nat} (h:i < L.length):(L.set i true).getD i false=true:=by
 rw [List.getD_eq_getElem?_getD,List.getElem?_set,if_pos rfl,if_pos h]
 rfl
theorem set_other {L:List Bool} {i j:Nat} (h:i≠j):(L.set i true).getD j false=L.getD j false:=by
 rw [List.getD_eq_getElem?_getD,List.getElem?_set,if_neg h,List.getD_eq_getElem?_getD]
theorem liveP_mono {g:Gt} {L:List Bool} {j:Nat} (h:L.getD j false=true):(liveP g L).getD j false=true:=by
 unfold liveP
 split
 ·exact set_true (set_true h)
 split
 ·exact set_true h
 ·exact h
theorem liveS_mono {gs:List Gt} {L:List Bool} {i j:Nat} (h:L.getD j false=true):(liveS gs L i).getD j false=true:=by
 unfold liveS
 split
 ·exact liveP_mono h
 ·exact h
theorem liveTo_mono (gs:List Gt):∀ (i:Nat) {L:List Bool} {j:Nat},L.getD j false=true→(liveTo gs L i).getD j false=true
 | 0,_,_,h=>h
 | i + 1,_,_,h=>liveTo_mono gs i (liveS_mono h)
def Fed (gs:List Gt) (L:List Bool) (i:Nat):Prop:=∀ g,gs[i]? = some g→L.getD i false=true →
 ((g.k=3∨g.k=4)→L.getD g.a.toNat false=true∧L.getD g.b.toNat false=true)∧(g.k=5→L.getD g.a.toNat false=true)
theorem liveS_far {gs:List Gt} {L:List Bool} {i j:Nat} (h:gatesB 0 gs=true) (hij:i≤j):(liveS gs L i).getD j false=L.getD j false:=by
 unfold liveS
 split
 ·by_cases hl:i < gs.length
  ·have hg:=gatesB_at h (List.getElem?_eq_getElem hl)
   have e:gs.getD i ⟨0,0,0⟩=gs[i]:=by rw [List.getD_eq_getElem?_getD,List.getElem?_eq_getElem hl]; rfl
   rw [Nat.zero_add] at hg
   rw [e]
   unfold liveP
   split
   ·next hk =>
    have:=gate_is34 hg hk
    rw [set_other (by omega),set_other (by omega)]
   split
   ·next hk =>
    have:=gate_is5 hg hk
    rw [set_other (by omega)]
   ·rfl
  ·have e:gs.getD i ⟨0,0,0⟩=⟨0,0,0⟩:=by rw [List.getD_eq_getElem?_getD,List.getElem?_eq_none (by omega)]; rfl
   rw [e]
   rfl
 ·rfl
theorem liveS_fed {gs:List Gt} {L:List Bool} {i:Nat} (h:gatesB 0 gs=true) (hL:L.length=gs.length):Fed gs (liveS gs L i) i:=by
 intro g hg hl
 rw [liveS_far h (Nat.le_refl _)] at hl
 have hv:=gatesB_at h hg
 have hi:=(List.getElem?_eq_some_iff.1 hg).1
 rw [Nat.zero_add] at hv
 have e:gs.getD i ⟨0,0,0⟩=g:=by rw [List.getD_eq_getElem?_getD,hg]; rfl
 unfold liveS
 rw [if_pos hl,e]
 unfold liveP
 refine ⟨fun hk=>?_,fun hk=>?_⟩
 ·have:=gate_is34 hv hk
  rw [if_pos hk]
  exact ⟨set_true (set_self (by omega)),set_self (by rw [List.length_set]; omega)⟩
 ·have:=gate_is5 hv hk
  rw [if_neg (by omega),if_pos hk]
  exact set_self (by omega)
theorem fed_mono {gs:List Gt} {L L':List Bool} {i:Nat} (h:Fed gs L i) (he:L'.getD i false=L.getD i false) (hm:∀ j,L.getD j false=true→L'.getD j false=true):Fed gs L' i:=by
 intro g hg hl
 rw [he] at hl
 obtain ⟨h1,h2⟩:=h g hg hl
 exact ⟨fun hk=>⟨hm _ (h1 hk).1,hm _ (h1 hk).2⟩,fun hk=>hm _ (h2 hk)⟩
theorem liveTo_fed {gs:List Gt} (h:gatesB 0 gs=true):∀ (i:Nat) {L:List Bool},L.length=gs.length→(∀ j,i≤j→Fed gs L j)→∀ j,Fed gs (liveTo gs L i) j
 | 0,_,_,hf=>fun j=>hf j (Nat.zero_le _)
 | i + 1,L,hL,hf=>by
  refine liveTo_fed h i (by rw [liveS_length,hL]) fun j hj=>?_
  by_cases e:j=i
  ·subst e
   exact liveS_fed h hL
  ·exact fed_mono (hf j (by omega)) (liveS_far h hj) (fun _ h=>liveS_mono h)
theorem liveG_fed {gs:List Gt} (h:gatesB 0 gs=true) (os:List Int):∀ j,Fed gs (liveG gs os) j:=by
 refine liveTo_fed h _ (live0_length _ _) fun j hj=>?_
 intro g hg
 have:=(List.getElem?_eq_some_iff.1 hg).1
 omega
theorem live0_out {n:Nat} {os:List Int} (h:outsB n os=true):∀ w∈os,(live0 n os).getD w.toNat false=true:=by
 have key:∀ (os:List Int) (L:List Bool),L.length=n→(∀ w∈os,wireB n w=true)→(∀ j,L.getD j false=true→(os.foldl (fun L w=>L.set w.toNat true) L).getD j false=true)∧∀ w∈os,(os.foldl (fun L w=>L.set w.toNat true) L).getD w.toNat false=true:=fun os=>by
  induction os with
  | nil=>intro L _ _; exact ⟨fun _ h=>h,fun w hw=>by cases hw⟩
  | cons x os ih =>
   intro L hL hw
   have hx:=wireB_iff.1 (hw x (by simp))
   obtain ⟨i1,i2⟩:=ih (L.set x.toNat true) (by rw [List.length_set,hL]) fun w hw'=>hw w (by simp [hw'])
   rw [List.foldl_cons]
   refine ⟨fun j hj=>i1 j (set_true hj),fun w hw'=>?_⟩
   rcases List.mem_cons.1 hw' with rfl | hw'
   ·exact i1 _ (set_self (by omega))
   ·exact i2 w hw'
 exact (key os _ (List.length_replicate ..) (outs_wire h)).2
theorem liveG_out {gs:List Gt} {os:List Int} (h:outsB gs.length os=true):∀ w∈os,(liveG gs os).getD w.toNat false=true:=fun w hw=>liveTo_mono gs _ (live0_out h w hw)
structure OkR (gs:List Gt) (L:List Bool) (st:List Gt × List Int) (k:Nat):Prop where
 g:gatesB 0 st.1=true
 hi:st.1.length≤k
 tl:st.2.length=gs.length
 t:∀ i,i < k→L.getD i false=true→wireB st.1.length (st.2.getD i 0)=true
theorem reG_ok {gs:List Gt} {L:List Bool} {st:List Gt × List Int} {k:Nat} {g:Gt} (h:OkR gs L st k) (hf:Fed gs L k) (hg:gs[k]? = some g) (hv:gateB g k=true) (hl:L.getD k false=true):gateB (reG st.2 g) st.1.length=true:=by
 obtain ⟨f1,f2⟩:=hf g hg hl
 unfold reG
 by_cases h34:g.k=3∨g.k=4
 ·have hw:=gate_is34 hv h34
  rw [if_pos h34]
  exact gate3 h34 (h.t _ (by omega) (f1 h34).1) (h.t _ (by omega) (f1 h34).2)
 rw [if_neg h34]
 by_cases h5:g.k=5
 ·have hw:=gate_is5 hv h5
  rw [if_pos h5,h5,hw.2]
  exact gate5 (h.t _ (by omega) (f2 h5))
 rw [if_neg h5]
 unfold gateB at hv ⊢
 rw [if_neg h34,if_neg h5] at hv ⊢
 exact hv
theorem prS_ok {gs:List Gt} {L:List Bool} {st:List Gt × List Int} {k:Nat} (h:OkR gs L st k) (hgs:gatesB 0 gs=true) (hf:Fed gs L k) (hk:k < gs.length):OkR gs L (prS gs L st k) (k + 1):=by
 have hv:=gatesB_at hgs (List.getElem?_eq_getElem hk)
 rw [Nat.zero_add] at hv
 have e:gs.getD k ⟨0,0,0⟩=gs[k]:=by rw [List.getD_eq_getElem?_getD,List.getElem?_eq_getElem hk]; rfl
 have hhi:=h.hi
 have htl:=h.tl
 unfold prS
 split
 ·next hl =>
  rw [e]
  refine ⟨gatesB_snoc h.g (reG_ok h hf (List.getElem?_eq_getElem hk) hv hl),by simp; omega,by simp [htl],fun i hi hLi=>?_⟩
  show wireB (st.1 ++ _).length ((st.2.set k _).getD i 0)=true
  rw [List.length_append,List.length_singleton,List.getD_eq_getElem?_getD,List.getElem?_set]
  split
  ·next e =>
   subst e
   rw [if_pos (by omega)]
   exact wire_at (by omega)
  ·rw [←List.getD_eq_getElem?_getD]
   exact wireB_mono (h.t i (by omega) hLi) (by omega)
 ·next hl =>
  refine ⟨h.g,by omega,htl,fun i hi hLi=>?_⟩
  by_cases e:i=k
  ·subst e
   exact absurd hLi hl
  ·exact h.t i (by omega) hLi
theorem prTo_ok {gs:List Gt} {L:List Bool} (hgs:gatesB 0 gs=true) (hf:∀ j,Fed gs L j):∀ k,k≤gs.length→OkR gs L (prTo gs L k) k
 | 0,_=>⟨rfl,Nat.le_refl _,by simp [prTo],fun i hi=>by omega⟩
 | k + 1,hk=>prS_ok (prTo_ok hgs hf k (by omega)) hgs (hf k) (by omega)
theorem prun_valid {gs:List Gt} {os:List Int} (h:circB gs os=true):circB (prunC gs os).1 (prunC gs os).2=true:=by
 obtain ⟨h1,h2,h3⟩:=circ_parts h
 have hr:=prTo_ok h2 (liveG_fed h2 os) gs.length (Nat.le_refl _)
 unfold prunC
 rw [if_pos h]
 have hh:=hr.hi
 refine circ_mk (by show (prTo gs (liveG gs os) gs.length).1.length≤_; omega) hr.g ?_
 refine List.all_eq_true.2 fun w hw=>?_
 obtain ⟨x,hx,rfl⟩:=List.mem_map.1 hw
 have:=wireB_iff.1 (outs_wire h3 x hx)
 exact hr.t _ (by omega) (liveG_out h3 x hx)
theorem opt_valid {gs:List Gt} {os:List Int} (h:circB gs os=true):circB (optC gs os).1 (optC gs os).2=true:=prun_valid (simp_valid h)
def andG (gs:List Gt):Nat:=(gs.filter (fun g=>g.k == 4)).length
def andOne (g:Gt):Nat:=if (g.k == 4)=true then 1 else 0
theorem andG_snoc (gs:List Gt) (g:Gt):andG (gs ++ [g])=andG gs + andOne g:=by
 unfold andG andOne
 rw [List.filter_append,List.length_append]
 cases hk:(g.k == 4) <;> simp [List.filter,hk]
open Go.RowKit
def hashI (x n:Int):Int:=keyedI 77 n x % 65536
def ifI (b x:Int):Int:=pick (b == 1) x 0
def xorI (a b:Int):Int:=bits .xor .i64 a b
def oneI (a:Int):Int:=bits .and .i64 a 1
def tgI (d a b n:Int):Int:=xorI (xorI (hashI a (2 * n)) (hashI (xorI a d) (2 * n))) (ifI (oneI b) d)
def teI (d a b n:Int):Int:=xorI (xorI (hashI b (2 * n + 1)) (hashI (xorI b d) (2 * n + 1))) a
def gaI (d a b n:Int):Int:=xorI (xorI (xorI (hashI a (2 * n)) (hashI b (2 * n + 1))) (ifI (oneI a) (tgI d a b n))) (ifI (oneI b) (xorI (teI d a b n) a))
def garZ (s d:Int) (zs:List Int) (n:Nat) (g:Gt):Int :=
 if g.k=1 then zeroI s g.a
 else if g.k=2 then zeroI s (1000 + n)
 else if g.k=3 then xorI (zs.getD g.a.toNat 0) (zs.getD g.b.toNat 0)
 else if g.k=5 then xorI (zs.getD g.a.toNat 0) d
 else gaI d (zs.getD g.a.toNat 0) (zs.getD g.b.toNat 0) n
def garT (d:Int) (zs:List Int) (n:Nat) (g:Gt):List Int :=
 if (g.k == 4)=true then [tgI d (zs.getD g.a.toNat 0) (zs.getD g.b.toNat 0) n,teI d (zs.getD g.a.toNat 0) (zs.getD g.b.toNat 0) n] else []
def garTo (s d:Int) (gs:List Gt):Nat→List Int × List Int
 | 0=>([],[])
 | j + 1=>((garTo s d gs j).1 ++ [garZ s d (garTo s d gs j).1 j (gs.getD j ⟨0,0,0⟩)],(garTo s d gs j).2 ++ garT d (garTo s d gs j).1 j (gs.getD j ⟨0,0,0⟩))
theorem gar_zeros (s d:Int) (gs:List Gt):∀ j,(garTo s d gs j).1.length=j
 | 0=>rfl
 | j + 1=>by rw [garTo,List.length_append,gar_zeros s d gs j]; rfl
theorem garT_length (d:Int) (zs:List Int) (n:Nat) (g:Gt):(garT d zs n g).length=2 * andOne g:=by
 unfold garT andOne
 split <;> rfl
theorem gar_tables (s d:Int) (gs:List Gt):∀ j,j≤gs.length→(garTo s d gs j).2.length=2 * andG (gs.take j)
 | 0,_=>rfl
 | j + 1,hj=>by
  have hl:j < gs.length:=by omega
  have e1:gs.take (j + 1)=gs.take j ++ [gs[j]]:=List.take_succ_eq_append_getElem hl
  have e2:gs.getD j ⟨0,0,0⟩=gs[j]:=by rw [List.getD_eq_getElem?_getD,List.getElem?_eq_getElem hl]; rfl
  rw [garTo,List.length_append,garT_length,gar_tables s d gs j (by omega),e1,andG_snoc,e2]
  omega
open Go.RowKit
theorem hash_and (x n:Int):bits .and .i64 (keyedI 77 n x) 65535=hashI x n:=by
 obtain ⟨h0,h1⟩:=keyedI_range 77 n x
 obtain ⟨k,hk⟩:=Int.eq_ofNat_of_zero_le h0
 unfold hashI
 rw [hk] at h1 ⊢
 rw [show (65535:Int)=((65535:Nat):Int) from rfl,and_nat k 65535 (by omega) (by omega),show (65535:Nat)=2 ^ 16 - 1 from rfl,Nat.and_two_pow_sub_one_eq_mod]
 omega
theorem hash_label (x n:Int):labelB (hashI x n)=true:=by
 obtain ⟨h0,h1⟩:=keyedI_range 77 n x
 unfold hashI
 exact labelB_iff.2 (by omega)
theorem sHash (x n:Int) (w:World) (hx:labelB x=true) (hn:inB n 0 1000000=true) :
  Calls Tryz.prog 138 #[.int .i64 x,.int .i64 n] w fun e w'=>e=.returned (.int .i64 (hashI x n))∧w=w':=by
 have hh:=hash_and x n
 go_enter Tryz.func138,Tryz.ntmps138
 go_wp2_with first | (go_at_call 180; refine (sIsLabel _ _).mono ?_; rintro e w' ⟨rfl,rfl⟩) | (go_at_call 123; refine (sWithin _ _ _ _).mono ?_; rintro e w' ⟨rfl,rfl⟩) | (go_at_call 182; refine (sKeyed _ _ _ _).mono ?_; rintro e w' ⟨rfl,rfl⟩)
 go_ret
 exact ⟨rfl,rfl⟩
theorem sIf (b x:Int) (w:World):Calls Tryz.prog 139 #[.int .i64 b,.int .i64 x] w fun e w'=>e=.returned (.int .i64 (ifI b x))∧w=w':=by
 cases h:(b == 1)
 ·have hv:ifI b x=0:=by unfold ifI; rw [h]; rfl
  rw [hv]
  go_enter Tryz.func139,Tryz.ntmps139
  go_wp2
  go_ret
  exact ⟨rfl,rfl⟩
 ·have hv:ifI b x=x:=by unfold ifI; rw [h]; rfl
  rw [hv]
  go_enter Tryz.func139,Tryz.ntmps139
  go_wp2
  go_ret
  exact ⟨rfl,rfl⟩
open Go.RowKit
theorem xorI_label {a b:Int} (ha:labelB a=true) (hb:labelB b=true):labelB (xorI a b)=true:=xor_label ha hb
theorem zero_lab:labelB 0=true:=by decide
theorem ifI_label {b x:Int} (hx:labelB x=true):labelB (ifI b x)=true:=by
 unfold ifI
 cases (b == 1)
 ·exact zero_lab
 ·exact hx
theorem tg_label {d a b:Int} (n:Int) (hd:labelB d=true):labelB (tgI d a b n)=true:=xorI_label (xorI_label (hash_label _ _) (hash_label _ _)) (ifI_label hd)
theorem te_label {d a b:Int} (n:Int) (ha:labelB a=true):labelB (teI d a b n)=true:=xorI_label (xorI_label (hash_label _ _) (hash_label _ _)) ha
theorem ga_label {d a b:Int} (n:Int) (hd:labelB d=true) (ha:labelB a=true):labelB (gaI d a b n)=true :=
 xorI_label (xorI_label (xorI_label (hash_label _ _) (hash_label _ _)) (ifI_label (tg_label n hd))) (ifI_label (xorI_label (te_label n ha) ha))
theorem getD_label {zs:List Int} (h:∀ z∈zs,labelB z=true) (i:Nat):labelB (zs.getD i 0)=true:=by
 rw [List.getD_eq_getElem?_getD]
 cases hx:zs[i]? with
 | none=>exact zero_lab
 | some z=>exact h z (List.mem_of_getElem? hx)
theorem garZ_label {s d:Int} {zs:List Int} (n:Nat) (g:Gt) (hd:labelB d=true) (h:∀ z∈zs,labelB z=true):labelB (garZ s d zs n g)=true:=by
 unfold garZ
 split
 ·exact zero_label _ _
 ·split
  ·exact zero_label _ _
  ·split
   ·exact xorI_label (getD_label h _) (getD_label h _)
   ·split
    ·exact xorI_label (getD_label h _) hd
    ·exact ga_label _ hd (getD_label h _)
theorem gar_labels {s d:Int} (gs:List Gt) (hd:labelB d=true):∀ j,∀ z∈(garTo s d gs j).1,labelB z=true
 | 0,z,hz=>by simp [garTo] at hz
 | j + 1,z,hz=>by
  rw [garTo,List.mem_append,List.mem_singleton] at hz
  rcases hz with hz | rfl
  ·exact gar_labels gs hd j z hz
  ·exact garZ_label _ _ hd (gar_labels gs hd j)
theorem garT_labels {d:Int} {zs:List Int} (n:Nat) (g:Gt) (hd:labelB d=true) (h:∀ z∈zs,labelB z=true):∀ t∈garT d zs n g,labelB t=true:=by
 unfold garT
 split
 ·intro t ht
  rw [List.mem_cons,List.mem_singleton] at ht
  rcases ht with rfl | rfl
  ·exact tg_label _ hd
  ·exact te_label _ (getD_label h _)
 ·intro t ht
  cases ht
theorem gar_tlabels {s d:Int} (gs:List Gt) (hd:labelB d=true):∀ j,∀ t∈(garTo s d gs j).2,labelB t=true
 | 0,z,hz=>by simp [garTo] at hz
 | j + 1,z,hz=>by
  rw [garTo,List.mem_append] at hz
  rcases hz with hz | hz
  ·exact gar_tlabels gs hd j z hz
  ·exact garT_labels _ _ hd (gar_labels gs hd j) z hz
open Go.RowKit
structure St where
 o:Int
 d:Int
 a:Int
 b:Int
 c:Int
 n:Int
def regB (x:Int):Bool:=inB x 0 7
def stmtB (s:St):Bool :=
 if s.o=1 then regB s.d && (s.a == 0 && (s.b == 0 && (s.c == 0 && inB s.n 0 15)))
 else if s.o=2 then regB s.d && (inB s.a 0 4 && (s.b == 0 && (s.c == 0 && inB s.n 0 3)))
 else if inB s.o 3 9 then regB s.d && (regB s.a && (regB s.b && (s.c == 0 && s.n == 0)))
 else if s.o=10 then regB s.d && (regB s.a && (regB s.b && (regB s.c && s.n == 0)))
 else if s.o=11 then s.d == 0 && (regB s.a && (s.b == 0 && (s.c == 0 && s.n == 0)))
 else if s.o=12 then s.d == 0 && (s.a == 0 && (s.b == 0 && (s.c == 0 && inB s.n 1 8)))
 else s.o == 13 && (s.d == 0 && (s.a == 0 && (s.b == 0 && (s.c == 0 && s.n == 0))))
theorem stmt_in {s:St} (h:stmtB s=true):(1≤s.o∧s.o≤13)∧(0≤s.d∧s.d≤7)∧(0≤s.a∧s.a≤7)∧(0≤s.b∧s.b≤7)∧(0≤s.c∧s.c≤7)∧(0≤s.n∧s.n≤15):=by
 unfold stmtB regB at h
 split at h
 ·simp only [Bool.and_eq_true,inB_iff,beq_iff_eq] at h; omega
 split at h
 ·simp only [Bool.and_eq_true,inB_iff,beq_iff_eq] at h; omega
 split at h
 ·next h3 =>
  have:=inB_iff.1 h3
  simp only [Bool.and_eq_true,inB_iff,beq_iff_eq] at h; omega
 split at h
 ·simp only [Bool.and_eq_true,inB_iff,beq_iff_eq] at h; omega
 split at h
 ·simp only [Bool.and_eq_true,inB_iff,beq_iff_eq] at h; omega
 split at h
 ·simp only [Bool.and_eq_true,inB_iff,beq_iff_eq] at h; omega
 ·simp only [Bool.and_eq_true,beq_iff_eq] at h; omega
theorem stmt_loop {s:St} (h:stmtB s=true) (ho:s.o=12):1≤s.n∧s.n≤8:=by
 unfold stmtB at h
 rw [if_neg (by omega),if_neg (by omega),if_neg (by rw [inB_iff]; omega),if_neg (by omega),if_neg (by omega),if_pos ho] at h
 simp only [Bool.and_eq_true,inB_iff,beq_iff_eq] at h
 omega
def flatS:List St→List Int
 | []=>[]
 | s :: r=>s.o :: s.d :: s.a :: s.b :: s.c :: s.n :: flatS r
theorem flatS_length:∀ L,(flatS L).length=L.length * 6
 | []=>rfl
 | s :: r=>by simp only [flatS,List.length_cons,flatS_length r]; omega
theorem flatS_append:∀ A B,flatS (A ++ B)=flatS A ++ flatS B
 | [],B=>rfl
 | s :: r,B=>by simp only [flatS,List.cons_append,flatS_append r B]
def sixS (s:St):List Int:=[s.o,s.d,s.a,s.b,s.c,s.n]
theorem flatS_at:∀ {L:List St} {k:Nat} {s:St},L[k]? = some s→∀ (j:Nat) (x:Int),(sixS s)[j]? = some x→(flatS L)[k * 6 + j]? = some x
 | t :: r,0,s,h,j,x,hx=>by
  injection h with h
  subst h
  have hj:j < 6:=(List.getElem?_eq_some_iff.1 hx).1
  rw [show 0 * 6 + j=j by omega]
  match j,hj with
  | 0,_=>exact hx
  | 1,_=>exact hx
  | 2,_=>exact hx
  | 3,_=>exact hx
  | 4,_=>exact hx
  | 5,_=>exact hx
 | t :: r,k + 1,s,h,j,x,hx=>by
  have ih:=flatS_at (L:=r) (k:=k) (by simpa using h) j x hx
  rw [show (k + 1) * 6 + j=(k * 6 + j) + 6 by omega]
  exact ih
theorem flatS_drop:∀ (L:List St) (k:Nat),(flatS L).drop (k * 6)=flatS (L.drop k)
 | L,0=>by simp
 | [],k + 1=>by simp [flatS]
 | t :: r,k + 1=>by
  rw [show (k + 1) * 6=k * 6 + 6 by omega,List.drop_succ_cons,←flatS_drop r k]
  rfl
theorem flatS_take:∀ (L:List St) (k:Nat),(flatS L).take (k * 6)=flatS (L.take k)
 | L,0=>by simp [flatS]
 | [],k + 1=>by simp [flatS]
 | t :: r,k + 1=>by
  rw [show (k + 1) * 6=k * 6 + 6 by omega,List.take_succ_cons,flatS,flatS,←flatS_take r k]
  rfl
def dep (s:St) (k:Int):Int:=if s.o=12 then k + 1 else if s.o=13 then k - 1 else k
def scanP:Int→List St→Bool
 | k,[]=>k == 0
 | k,s :: r=>stmtB s && (inB (dep s k) 0 3 && scanP (dep s k) r)
def progB (L:List St):Bool:=decide (L.length≤40) && scanP 0 L
inductive Tr where
 | nil:Tr
 | one (s:St) (r:Tr):Tr
 | loop (h:St) (b:Tr) (e:St) (r:Tr):Tr
def Tr.flat:Tr→List St
 | .nil=>[]
 | .one s r=>s :: r.flat
 | .loop h b e r=>h :: (b.flat ++ e :: r.flat)
def Tr.ok:Tr→Bool
 | .nil=>true
 | .one s r=>stmtB s && (!(s.o == 12) && (!(s.o == 13) && r.ok))
 | .loop h b e r=>stmtB h && (h.o == 12 && (b.ok && (stmtB e && (e.o == 13 && r.ok))))
def Tr.dp:Tr→Nat
 | .nil=>0
 | .one _ r=>r.dp
 | .loop _ b _ r=>max (b.dp + 1) r.dp
def Tr.sz:Tr→Nat
 | .nil=>0
 | .one _ r=>r.sz + 1
 | .loop _ b _ r=>b.sz + r.sz + 1
def repL (L:List St):Nat→List St
 | 0=>[]
 | n + 1=>repL L n ++ L
def Tr.unr:Tr→List St
 | .nil=>[]
 | .one s r=>s :: r.unr
 | .loop h b _ r=>repL b.unr h.n.toNat ++ r.unr
def Tr.us:Tr→Nat
 | .nil=>0
 | .one _ r=>1 + r.us
 | .loop h b _ r=>h.n.toNat * b.us + r.us
theorem repL_length (L:List St):∀ n,(repL L n).length=n * L.length
 | 0=>by simp [repL]
 | n + 1=>by rw [repL,List.length_append,repL_length L n,Nat.succ_mul]
theorem unr_length:∀ t:Tr,t.unr.length=t.us
 | .nil=>rfl
 | .one s r=>by simp only [Tr.unr,Tr.us,List.length_cons,unr_length r]; omega
 | .loop h b e r=>by rw [Tr.unr,Tr.us,List.length_append,repL_length,unr_length b,unr_length r]
theorem us_le:∀ t:Tr,t.ok=true→t.us≤t.flat.length * 8 ^ t.dp
 | .nil,_=>Nat.zero_le _
 | .one s r,h=>by
  simp only [Tr.ok,Bool.and_eq_true] at h
  have ih:=us_le r h.2.2.2
  have h8:1≤8 ^ r.dp:=Nat.pow_pos (by decide)
  simp only [Tr.us,Tr.flat,Tr.dp,List.length_cons,Nat.succ_mul]
  omega
 | .loop h b e r,ht=>by
  simp only [Tr.ok,Bool.and_eq_true,beq_iff_eq] at ht
  have ib:=us_le b ht.2.2.1
  have ir:=us_le r ht.2.2.2.2.2
  have hn:=stmt_loop ht.1 ht.2.1
  have h1:h.n.toNat * b.us≤8 * (b.flat.length * 8 ^ b.dp):=Nat.mul_le_mul (by omega) ib
  have h2:8 * (b.flat.length * 8 ^ b.dp)=b.flat.length * 8 ^ (b.dp + 1):=by rw [Nat.pow_succ]; ac_rfl
  have h3:b.flat.length * 8 ^ (b.dp + 1)≤b.flat.length * 8 ^ max (b.dp + 1) r.dp:=Nat.mul_le_mul_left _ (Nat.pow_le_pow_right (by decide) (by omega))
  have h4:r.flat.length * 8 ^ r.dp≤r.flat.length * 8 ^ max (b.dp + 1) r.dp:=Nat.mul_le_mul_left _ (Nat.pow_le_pow_right (by decide) (by omega))
  simp only [Tr.us,Tr.flat,Tr.dp,List.length_cons,List.length_append]
  generalize 8 ^ max (b.dp + 1) r.dp=M at h3 h4 ⊢
  have h5:(b.flat.length + (r.flat.length + 1) + 1) * M=b.flat.length * M + r.flat.length * M + 2 * M:=by rw [Nat.add_mul,Nat.add_mul,Nat.add_mul]; omega
  rw [h5]
  omega
def Tr.isNil:Tr→Bool
 | .nil=>true
 | _=>false
theorem nil_dp {t:Tr} (h:t.isNil=true):t.dp=0:=by cases t <;> first | rfl | cases h
def fitB (k:Nat) (t:Tr):Bool:=decide (k + t.dp≤3) || t.isNil
theorem fitB_iff {k:Nat} {t:Tr}:fitB k t=true↔k + t.dp≤3∨t.isNil=true:=by
 unfold fitB
 rw [Bool.or_eq_true,decide_eq_true_iff]
theorem scan_tree:∀ (t:Tr) (k:Nat) (R:List St),t.ok=true→scanP k (t.flat ++ R)=(fitB k t && scanP k R)
 | .nil,k,R,_=>by simp [Tr.flat,fitB,Tr.isNil]
 | .one s r,k,R,h=>by
  simp only [Tr.ok,Bool.and_eq_true,Bool.not_eq_true',beq_eq_false_iff_ne] at h
  obtain ⟨h1,h2,h3,h4⟩:=h
  have hd:dep s k=k:=by unfold dep; rw [if_neg h2,if_neg h3]
  simp only [Tr.flat,List.cons_append,scanP,hd,h1,Bool.true_and]
  rw [scan_tree r k R h4]
  have hn:=nil_dp (t:=r)
  have hdp:(Tr.one s r).dp=r.dp:=rfl
  have hni:(Tr.one s r).isNil=false:=rfl
  rw [Bool.eq_iff_iff,Bool.and_eq_true,Bool.and_eq_true,Bool.and_eq_true,fitB_iff,fitB_iff,inB_iff,hdp,hni]
  constructor
  ·rintro ⟨h5,h6 | h6,h7⟩
   ·exact ⟨.inl h6,h7⟩
   ·have:=hn h6
    exact ⟨.inl (by omega),h7⟩
  ·rintro ⟨h5 | h5,h7⟩
   ·exact ⟨by omega,.inl h5,h7⟩
   ·cases h5
 | .loop h b e r,k,R,ht=>by
  simp only [Tr.ok,Bool.and_eq_true,beq_iff_eq] at ht
  obtain ⟨h1,h2,h3,h4,h5,h6⟩:=ht
  have hd:dep h k=((k + 1:Nat):Int):=by unfold dep; rw [if_pos h2]; omega
  have he:dep e ((k + 1:Nat):Int)=k:=by unfold dep; rw [if_neg (by omega),if_pos h5]; omega
  have hst:scanP ((k + 1:Nat):Int) (e :: (r.flat ++ R))=(inB (k:Int) 0 3 && scanP k (r.flat ++ R)):=by rw [scanP,h4,he,Bool.true_and]
  rw [Tr.flat,List.cons_append,scanP,hd,h1,Bool.true_and,List.append_assoc,scan_tree b (k + 1) _ h3,List.cons_append,hst,scan_tree r k R h6]
  have hb0:=nil_dp (t:=b)
  have hr0:=nil_dp (t:=r)
  have hdp:(Tr.loop h b e r).dp=max (b.dp + 1) r.dp:=rfl
  have hni:(Tr.loop h b e r).isNil=false:=rfl
  rw [Bool.eq_iff_iff,Bool.and_eq_true,Bool.and_eq_true,Bool.and_eq_true,Bool.and_eq_true,Bool.and_eq_true,fitB_iff,fitB_iff,fitB_iff,inB_iff,inB_iff,hdp,hni]
  constructor
  ·rintro ⟨h7,h8,h9,h10,h11⟩
   refine ⟨.inl ?_,h11⟩
   have h12:b.dp + 1 + k≤3:=by
    rcases h8 with h8 | h8
    ·omega
    ·have:=hb0 h8; omega
   have h13:r.dp + k≤3:=by
    rcases h10 with h10 | h10
    ·omega
    ·have:=hr0 h10; omega
   omega
  ·rintro ⟨h7 | h7,h11⟩
   ·exact ⟨by omega,.inl (by omega),by omega,.inl (by omega),h11⟩
   ·cases h7
def Rest:Nat→List St→Prop
 | 0,L=>∃ t:Tr,t.ok=true∧L=t.flat
 | k + 1,L=>∃ (t:Tr) (e:St) (L':List St),t.ok=true∧stmtB e=true∧e.o=13∧L=t.flat ++ e :: L'∧Rest k L'
theorem scan_rest:∀ (L:List St) (k:Nat),scanP k L=true→Rest k L
 | [],k,h=>by
  simp only [scanP,beq_iff_eq] at h
  obtain rfl:k=0:=by omega
  exact ⟨.nil,rfl,rfl⟩
 | s :: r,k,h=>by
  simp only [scanP,Bool.and_eq_true,inB_iff] at h
  obtain ⟨h1,h2,h3⟩:=h
  by_cases ho:s.o=12
  ·have hd:dep s k=((k + 1:Nat):Int):=by unfold dep; rw [if_pos ho]; omega
   rw [hd] at h3
   obtain ⟨t,e,L',ht,hse,he,rfl,hr⟩:=scan_rest r (k + 1) h3
   cases k with
   | zero =>
    obtain ⟨t',ht',rfl⟩:=hr
    exact ⟨.loop s t e t',by simp [Tr.ok,h1,ho,ht,hse,he,ht'],rfl⟩
   | succ k =>
    obtain ⟨t',e',L'',ht',hse',he',rfl,hr'⟩:=hr
    exact ⟨.loop s t e t',e',L'',by simp [Tr.ok,h1,ho,ht,hse,he,ht'],hse',he',by simp [Tr.flat],hr'⟩
  ·by_cases ho2:s.o=13
   ·have hd:dep s k=(k:Int) - 1:=by unfold dep; rw [if_neg ho,if_pos ho2]
    rw [hd] at h2 h3
    cases k with
    | zero=>exact absurd h2.1 (by omega)
    | succ k =>
     rw [show ((k + 1:Nat):Int) - 1=(k:Int) by omega] at h3
     exact ⟨.nil,s,r,rfl,h1,ho2,rfl,scan_rest r k h3⟩
   ·have hd:dep s k=(k:Int):=by unfold dep; rw [if_neg ho,if_neg ho2]
    rw [hd] at h3
    have ih:=scan_rest r k h3
    cases k with
    | zero =>
     obtain ⟨t,ht,rfl⟩:=ih
     exact ⟨.one s t,by simp [Tr.ok,h1,ho,ho2,ht],rfl⟩
    | succ k =>
     obtain ⟨t,e,L',ht,hse,he,rfl,hr⟩:=ih
     exact ⟨.one s t,e,L',by simp [Tr.ok,h1,ho,ho2,ht],hse,he,rfl,hr⟩
theorem prog_tree {L:List St} (h:progB L=true):∃ t:Tr,L=t.flat∧t.ok=true∧t.dp≤3∧t.flat.length≤40:=by
 unfold progB at h
 rw [Bool.and_eq_true,decide_eq_true_eq] at h
 obtain ⟨t,ht,rfl⟩:=scan_rest L 0 h.2
 have h2:=scan_tree t 0 [] ht
 rw [List.append_nil] at h2
 have h3:=h2.symm.trans h.2
 rw [Bool.and_eq_true,fitB_iff] at h3
 refine ⟨t,rfl,ht,?_,h.1⟩
 rcases h3.1 with h4 | h4
 ·omega
 ·have:=nil_dp h4
  omega
theorem tree_prog {t:Tr} (h:t.ok=true) (hd:t.dp≤3) (hl:t.flat.length≤40):progB t.flat=true:=by
 unfold progB
 rw [Bool.and_eq_true,decide_eq_true_eq]
 refine ⟨hl,?_⟩
 have h2:=scan_tree t 0 [] h
 rw [List.append_nil] at h2
 have h3:fitB 0 t=true:=by unfold fitB; rw [decide_eq_true (by omega)]; rfl
 show scanP ((0:Nat):Int) t.flat=true
 rw [h2,h3]
 rfl
open Classical in
noncomputable def trOf (L:List St):Tr:=if h:progB L=true then Classical.choose (prog_tree h) else .nil
theorem trOf_ok {L:List St} (h:progB L=true):L=(trOf L).flat∧(trOf L).ok=true∧(trOf L).dp≤3∧(trOf L).flat.length≤40:=by
 unfold trOf
 rw [dif_pos h]
 exact Classical.choose_spec (prog_tree h)
noncomputable def uszI (L:List St):Int:=if progB L=true then ((trOf L).us:Int) else -1
noncomputable def unrB (L:List St):Bool:=progB L && decide ((trOf L).us≤120)
noncomputable def unrL (L:List St):List St:=if unrB L=true then (trOf L).unr else []
theorem unr_in:∀ (t:Tr),t.ok=true→∀ s∈t.unr,stmtB s=true∧s.o≠12∧s.o≠13
 | .nil,_,s,hs=>by simp [Tr.unr] at hs
 | .one x r,h,s,hs=>by
  simp only [Tr.ok,Bool.and_eq_true,Bool.not_eq_true',beq_eq_false_iff_ne] at h
  rw [Tr.unr,List.mem_cons] at hs
  rcases hs with rfl | hs
  ·exact ⟨h.1,h.2.1,h.2.2.1⟩
  ·exact unr_in r h.2.2.2 s hs
 | .loop x b e r,h,s,hs=>by
  simp only [Tr.ok,Bool.and_eq_true,beq_iff_eq] at h
  rw [Tr.unr,List.mem_append] at hs
  rcases hs with hs | hs
  ·have hrep:∀ n,s∈repL b.unr n→s∈b.unr:=fun n=>by
    induction n with
    | zero=>intro h0; simp [repL] at h0
    | succ n ih =>
     intro h0
     rw [repL,List.mem_append] at h0
     exact h0.elim ih id
   exact unr_in b h.2.2.1 s (hrep _ hs)
  ·exact unr_in r h.2.2.2.2.2 s hs
def mt:Int→List St→Nat
 | _,[]=>0
 | k,s :: r=>if s.o=12 then 1 + mt (k + 1) r else if s.o=13 then (if k - 1=0 then 0 else 1 + mt (k - 1) r) else 1 + mt k r
theorem mt_tree:∀ (t:Tr) (k:Int) (R:List St),t.ok=true→1≤k→mt k (t.flat ++ R)=t.flat.length + mt k R
 | .nil,k,R,_,_=>by simp [Tr.flat]
 | .one s r,k,R,h,hk=>by
  simp only [Tr.ok,Bool.and_eq_true,Bool.not_eq_true',beq_eq_false_iff_ne] at h
  rw [Tr.flat,List.cons_append,mt,if_neg h.2.1,if_neg h.2.2.1,mt_tree r k R h.2.2.2 hk,List.length_cons]
  omega
 | .loop x b e r,k,R,h,hk=>by
  simp only [Tr.ok,Bool.and_eq_true,beq_iff_eq] at h
  rw [Tr.flat,List.cons_append,List.append_assoc,mt,if_pos h.2.1,mt_tree b (k + 1) _ h.2.2.1 (by omega),List.cons_append,mt,if_neg (by omega),if_pos h.2.2.2.2.1,if_neg (by omega),
   show k + 1 - 1=k by omega,mt_tree r k R h.2.2.2.2.2 hk,List.length_cons,List.length_append,List.length_cons]
  omega
theorem mt_loop {x e:St} {b r:Tr} {R:List St} (h:(Tr.loop x b e r).ok=true):mt 0 ((Tr.loop x b e r).flat ++ R)=1 + b.flat.length:=by
 simp only [Tr.ok,Bool.and_eq_true,beq_iff_eq] at h
 rw [Tr.flat,List.cons_append,List.append_assoc,mt,if_pos h.2.1,show (0:Int) + 1=1 by omega,mt_tree b 1 _ h.2.2.1 (by omega),List.cons_append,mt,if_neg (by omega),if_pos h.2.2.2.2.1,if_pos (by omega)]
 omega
open Go.RowKit
def Row (w:World) (g e size n c:Nat) (xs:List Value):Prop:=w.ownsRow 0 e size (.slice (some ⟨g,0,none⟩) n c) n xs
section
variable {w w':World} {g e size n c:Nat} {xs:List Value}
theorem Row.parts (h:Row w g e size n c xs):xs.length=n * size∧∃ cur,w.heap[g]? = some (.cells cur e (0,0))∧n≤c∧c≤maxLen∧cur.size=c * size∧cur.toList.take (n * size)=xs:=by
 refine ⟨h.1,?_⟩
 rcases h.2 with ⟨hv,_⟩ | ⟨g',cap,cur,hv,_,h1,h2,h3,h4,h5⟩
 ·cases hv
 ·injection hv with e1 _ e3
  injection e1 with e1
  injection e1 with e1
  subst e1 e3
  exact ⟨cur,h1,h2,h3,h4,h5⟩
theorem Row.lt (h:Row w g e size n c xs):g < w.heap.size:=(World.ownsRow.lt h g rfl).2
theorem Row.cap (h:Row w g e size n c xs):n≤c:=by
 obtain ⟨_,_,_,h,_⟩:=h.parts
 exact h
theorem Row.len (h:Row w g e size n c xs):xs.length=n * size:=h.1
theorem Row.below (h:Row w g e size n c xs) (hb:Below w.heap.size w w'):Row w' g e size n c xs:=own_below h hb
theorem Row.grown {q:Nat} (h:Row w g e size n c xs) (hg:w.grownBy w' (some q)) (hne:g≠q):Row w' g e size n c xs :=
 gr_own hg h fun a b ha hb=>by
  injection ha with ha
  have:some g=some b:=hb
  injection this with this
  omega
theorem Row.alloc (h:Row w g e size n c xs) (o:Obj):Row (w.alloc o) g e size n c xs:=World.ownsRow.alloc h o
theorem Row.cells (h:Row w g e size n c xs):Cells w w.heap.size (some ⟨g,0,none⟩) xs:=Cells.of_own h
theorem Row.cell (h:Row w g e size n c xs) {k:Nat} {v:Value} (hk:xs[k]? = some v):w.cell? ⟨g,k,none⟩=some v:=by
 obtain ⟨b,off,e,_,hc⟩:=h.cells (by have:=(List.getElem?_eq_some_iff.1 hk).1; omega)
 injection e with e
 injection e with e1 e2
 subst e1 e2
 have:=hc k v hk
 rwa [Nat.zero_add] at this
theorem Row.new (cs:Array Value) (hn:n≤maxLen) (hs:cs.size=n * size) (hg:g=w.heap.size):Row (w.alloc (.cells cs e)) g e size n n cs.toList:=by
 subst hg
 exact own_lit cs n rfl (Nat.zero_le _) hn hs
theorem Row.own {base:Nat} (h:Row w g e size n c xs) (hb:base≤g):w.ownsRow base e size (.slice (some ⟨g,0,none⟩) n c) n xs:=by
 obtain ⟨h0,cur,h1,h2,h3,h4,h5⟩:=h.parts
 exact ⟨h0,.inr ⟨g,c,cur,rfl,hb,h1,h2,h3,h4,h5⟩⟩
end
theorem wpList_apps {P:Program} {w:World} {ops:Array Oper} {rest:List Oper} {o:Oper} {a:Act} {Q:Exit→Act→World→Prop} (hgd:o.guard=none) (s x:Operand) (t:TypeId)
  (ho:o.op=.call { callee:=.builtin .append,args:=#[s,x],argTypes:=#[t,t] })
  (e:Nat) (z:Value) (size bytes:Nat) (ht:P.underlying t=some (.slice e)) (hinfo:(P.info? e).map (fun i=>(i.zero,i.size,i.bytes))=some (some z,size,bytes)) (hzs:z.cells.size=size) (hsz:0 < size)
  {g n c:Nat} {xs:List Value} (hs:a.eval s=.slice (some ⟨g,0,none⟩) n c) (hown:Row w g e size n c xs)
  (ad:Addr) (m k:Nat) (news:List Value) (hx:a.eval x=.slice (some ad) m k) (hl:news.length=m * size) (hnews:∀ j u,news[j]? = some u→w.cell? (ad.add j)=some u) (h1:∀ u∈news,u.oneCell'=true)
  (hbound:n + m≤1000000000) (hbytes:bytes≤1000)
  (h:∀ g' c' w',Row w' g' e size (n + m) c' (xs ++ news)→w.grownBy w' (some g)→(g'=g∨g'=w.heap.size)→wpList P ops Q rest (a.put o.dst (.slice (some ⟨g',0,none⟩) (n + m) c')) w'):wpList P ops Q (o :: rest) a w:=by
 obtain ⟨i,hi,hz0,hz1,hz2⟩:=info_parts hinfo
 have hmul:(n + m) * bytes≤1000000000 * 1000:=Nat.mul_le_mul hbound hbytes
 refine wpList_append_own_at w hgd s x t ho 0 e i z size bytes ht hi hz0 hz1 hz2 hzs hsz _ n xs hs hown ad m k news hx hl hnews h1 (by unfold maxLen; omega) (by omega) (Nat.zero_le _) ?_
 intro v' w' hown' hg' hnil hbl
 rcases hown'.2 with ⟨hv,_⟩ | ⟨g',cap,cur,hv,_⟩
 ·exact absurd (hnil.1 hv).1 (by simp)
 ·subst hv
  refine h g' cap w' hown' hg' ?_
  rcases hbl with hb | hb
  ·have hb:some g'=some g:=hb
   injection hb with hb
   exact .inl hb
  ·have hb:some g'=some w.heap.size:=hb
   injection hb with hb
   exact .inr hb
theorem below_apps {B:Nat} {w0 w w':World} {g:Nat} (h:Below B w0 w) (hg:w.grownBy w' (some g)) (h1:B≤w.heap.size) (h2:B≤g):Below B w0 w' :=
 gr_below hg h h1 fun q hq=>by injection hq with hq; omega
theorem cells_add {w:World} {b off:Nat} {xs:List Value} (hc:∀ i v,xs[i]? = some v→w.cell? ⟨b,off + i,none⟩=some v):∀ j u,xs[j]? = some u→w.cell? ((⟨b,off,none⟩:Addr).add j)=some u:=fun j u hu=>by
 have e:(⟨b,off,none⟩:Addr).add j=⟨b,off + j,none⟩:=by simp [Addr.add]
 rw [e]
 exact hc j u hu
theorem ints_app (xs ys:List Int):ints (xs ++ ys)=ints xs ++ ints ys:=List.map_append
theorem infoSt:(Tryz.prog.info? 73).map (fun i=>(i.zero,i.size,i.bytes))=some (some (.agg #[.int .i64 0,.int .i64 0,.int .i64 0,.int .i64 0,.int .i64 0,.int .i64 0]),6,48):=by kernel_rfl
theorem infoGt:(Tryz.prog.info? 96).map (fun i=>(i.zero,i.size,i.bytes))=some (some (.agg #[.int .i64 0,.int .i64 0,.int .i64 0]),3,24):=by kernel_rfl
theorem infoI:(Tryz.prog.info? 3).map (fun i=>(i.zero,i.size,i.bytes))=some (some (.int .i64 0),1,8):=by kernel_rfl
abbrev RowS (w:World) (g n c:Nat) (L:List St):Prop:=Row w g 73 6 n c (ints (flatS L))
abbrev RowI (w:World) (g n c:Nat) (L:List Int):Prop:=Row w g 3 1 n c (ints L)
section
variable {w:World} {ops:Array Oper} {rest:List Oper} {o:Oper} {a:Act} {Q:Exit→Act→World→Prop}
theorem app_st (hgd:o.guard=none) (s x:Operand) (ho:o.op=.call { callee:=.builtin .append,args:=#[s,x],argTypes:=#[24,24] })
  {g n c:Nat} {L:List St} (hs:a.eval s=.slice (some ⟨g,0,none⟩) n c) (hown:RowS w g n c L) {b off m k:Nat} (M:List St) (hx:a.eval x=.slice (some ⟨b,off,none⟩) m k) (hl:M.length=m)
  (hc:∀ j u,(ints (flatS M))[j]? = some u→w.cell? ⟨b,off + j,none⟩=some u) (hb:n + m≤1000000)
  (h:∀ g' c' w',RowS w' g' (n + m) c' (L ++ M)→w.grownBy w' (some g)→(g'=g∨g'=w.heap.size)→wpList Tryz.prog ops Q rest (a.put o.dst (.slice (some ⟨g',0,none⟩) (n + m) c')) w'):wpList Tryz.prog ops Q (o :: rest) a w :=
 wpList_apps hgd s x _ ho _ _ 6 48 Tryz.underlying24 infoSt rfl (by decide) hs hown ⟨b,off,none⟩ m k (ints (flatS M)) hx (by rw [ints_length,flatS_length,hl]) (cells_add hc) (ints_one _) (by omega) (by decide)
  fun g' c' w' h1 h2 h3=>h g' c' w' (by show Row _ _ _ _ _ _ _; rw [flatS_append,ints_app]; exact h1) h2 h3
theorem app_int (hgd:o.guard=none) (s x:Operand) (ho:o.op=.call { callee:=.builtin .append,args:=#[s,x],argTypes:=#[30,30] })
  {g n c:Nat} {L:List Int} (hs:a.eval s=.slice (some ⟨g,0,none⟩) n c) (hown:RowI w g n c L) {b off m k:Nat} (M:List Int) (hx:a.eval x=.slice (some ⟨b,off,none⟩) m k) (hl:M.length=m)
  (hc:∀ j u,(ints M)[j]? = some u→w.cell? ⟨b,off + j,none⟩=some u) (hb:n + m≤1000000)
  (h:∀ g' c' w',RowI w' g' (n + m) c' (L ++ M)→w.grownBy w' (some g)→(g'=g∨g'=w.heap.size)→wpList Tryz.prog ops Q rest (a.put o.dst (.slice (some ⟨g',0,none⟩) (n + m) c')) w'):wpList Tryz.prog ops Q (o :: rest) a w :=
 wpList_apps hgd s x _ ho _ _ 1 8 Tryz.underlying30 infoI rfl (by decide) hs hown ⟨b,off,none⟩ m k (ints M) hx (by rw [ints_length,hl,Nat.mul_one]) (cells_add hc) (ints_one _) (by omega) (by decide)
  fun g' c' w' h1 h2 h3=>h g' c' w' (by show Row _ _ _ _ _ _ _; rw [ints_app]; exact h1) h2 h3
end
theorem top_cells (w:World) (cs:List Value) (t:TypeId):∀ (j:Nat) (u:Value),cs[j]? = some u→(w.alloc (.cells cs.toArray t)).cell? ⟨w.heap.size,0 + j,none⟩=some u:=fun j u hu=>by
 have hb:Blk (w.alloc (.cells cs.toArray t)) w.heap.size t cs.toArray:=Blk.new rfl
 rw [Nat.zero_add,hb.cell j]
 simpa using hu
theorem row_cells {w:World} {g e size n c:Nat} {xs:List Value} (h:Row w g e size n c xs):∀ (j:Nat) (u:Value),xs[j]? = some u→w.cell? ⟨g,0 + j,none⟩=some u:=fun j u hu=>by
 rw [Nat.zero_add]
 exact h.cell hu
open Go.RowKit
theorem stmtB_1 (d a b c n:Int):stmtB ⟨1,d,a,b,c,n⟩=(regB d && (a == 0 && (b == 0 && (c == 0 && inB n 0 15)))):=rfl
theorem stmtB_2 (d a b c n:Int):stmtB ⟨2,d,a,b,c,n⟩=(regB d && (inB a 0 4 && (b == 0 && (c == 0 && inB n 0 3)))):=rfl
theorem stmtB_3 {o:Int} (d a b c n:Int) (h:inB o 3 9=true):stmtB ⟨o,d,a,b,c,n⟩=(regB d && (regB a && (regB b && (c == 0 && n == 0)))):=by
 have h1:=inB_iff.1 h
 unfold stmtB
 dsimp only
 rw [if_neg (by omega),if_neg (by omega),if_pos h]
theorem stmtB_10 (d a b c n:Int):stmtB ⟨10,d,a,b,c,n⟩=(regB d && (regB a && (regB b && (regB c && n == 0)))):=rfl
theorem stmtB_11 (d a b c n:Int):stmtB ⟨11,d,a,b,c,n⟩=(d == 0 && (regB a && (b == 0 && (c == 0 && n == 0)))):=rfl
theorem stmtB_12 (d a b c n:Int):stmtB ⟨12,d,a,b,c,n⟩=(d == 0 && (a == 0 && (b == 0 && (c == 0 && inB n 1 8)))):=rfl
theorem stmtB_13 {o:Int} (d a b c n:Int) (h1:o≠1) (h2:o≠2) (h3:inB o 3 9=false) (h10:o≠10) (h11:o≠11) (h12:o≠12) :
  stmtB ⟨o,d,a,b,c,n⟩=(o == 13 && (d == 0 && (a == 0 && (b == 0 && (c == 0 && n == 0))))):=by
 unfold stmtB
 dsimp only
 rw [if_neg h1,if_neg h2,if_neg (by rw [h3]; simp),if_neg h10,if_neg h11,if_neg h12]
theorem all_no {p:Int→Bool} {xs:List Int} {k:Nat} {x:Int} (h:xs[k]? = some x) (hx:p x=false):xs.all p=false:=by
 rw [List.all_eq_false]
 exact ⟨x,List.mem_of_getElem? h,by simp [hx]⟩
theorem all_snoc {p:Int→Bool} {xs:List Int} {k:Nat} {x:Int} (h:xs[k]? = some x) (ha:(xs.take k).all p=true) (hx:p x=true):(xs.take (k + 1)).all p=true:=by
 rw [take_snoc h,List.all_append,ha]
 simp [hx]
set_option linter.unusedVariables false in
theorem iIsReg (A:Option Addr) (c:Nat) (xs:List Int) (w:World) (hc:Cells w w.heap.size A (ints xs)) (hn:xs.length≤1000000000) :
  Calls Tryz.prog 193 #[.slice A xs.length c] w fun e w'=>e=.returned (.bool (xs.all regB))∧w=w':=by
 go_enter Tryz.func193,Tryz.ntmps193
 go_wp2
 go_loop [4,7] (fun _ i=>∃ j:Nat,j≤xs.length∧i=.int .i64 j∧(xs.take j).all regB=true) (fun _ i=>xs.length - (intOf i).toNat)
 case atStart=>exact ⟨0,Nat.zero_le _,rfl,rfl⟩
 case round =>
  obtain ⟨j,hj,rfl,hall⟩:=hrel
  by_cases hlt:j < xs.length
  ·obtain ⟨x,hx1⟩:∃ x,xs[j]? = some x:=⟨_,List.getElem?_eq_getElem hlt⟩
   obtain ⟨b,off,rfl,hB,hcl⟩:=hc (by rw [ints_length]; omega)
   have hcell:w.cell? ⟨b,off + j,none⟩=some (.int .i64 x):=hcl j _ (ints_get hx1)
   have HW:=hid (fun w=>iWithin x 0 7 w)
   cases hr:regB x
   ·have HN:=hid (all_no hx1 hr)
    have hin:inB x 0 7=false:=hr
    rw [hin] at HW
    clear hcl hc hx1 hall hr hin
    go_wp2_with (go_at_call 56; refine (HW.out _).mono ?_; rintro e w' ⟨rfl,rfl⟩)
    go_ret
    exact ⟨by rw [HN.out]; rfl,rfl⟩
   ·have HA:=hid (all_snoc hx1 hall hr)
    have hin:inB x 0 7=true:=hr
    rw [hin] at HW
    clear hcl hc hx1 hall hr hin
    go_wp2_with (go_at_call 56; refine (HW.out _).mono ?_; rintro e w' ⟨rfl,rfl⟩)
    go_round
    case rel=>exact ⟨j + 1,by omega,by go_num,HA.out⟩
    case measure=>simp [intOf]; omega
  ·obtain rfl:j=xs.length:=by omega
   rw [List.take_length] at hall
   have HA:=hid hall
   clear hall
   go_wp2
   go_ret
   exact ⟨by rw [HA.out]; rfl,rfl⟩
theorem cells_blk {w:World} {b t:Nat} {xs:List Int} (h:Blk w b t (ints xs).toArray):Cells w w.heap.size (some ⟨b,0,none⟩) (ints xs):=fun _ =>
 ⟨b,0,rfl,h.lt,fun i v hv=>by
  rw [Nat.zero_add,h.cell i]
  simpa using hv⟩
theorem iReg1 (a:Int) (c b:Nat) (w:World) (h:Blk w b 3 #[.int .i64 a]) :
  Calls Tryz.prog 193 #[.slice (some ⟨b,0,none⟩) 1 c] w fun e w'=>e=.returned (.bool (regB a))∧w=w':=by
 have h:=iIsReg (some ⟨b,0,none⟩) c [a] w (cells_blk h) (by simp)
 simpa using h
theorem iReg3 (x y z:Int) (c b:Nat) (w:World) (h:Blk w b 3 #[.int .i64 x,.int .i64 y,.int .i64 z]) :
  Calls Tryz.prog 193 #[.slice (some ⟨b,0,none⟩) 3 c] w fun e w'=>e=.returned (.bool (regB x && (regB y && regB z)))∧w=w':=by
 have h:=iIsReg (some ⟨b,0,none⟩) c [x,y,z] w (cells_blk h) (by simp)
 simpa using h
theorem iReg4 (x y z u:Int) (c b:Nat) (w:World) (h:Blk w b 3 #[.int .i64 x,.int .i64 y,.int .i64 z,.int .i64 u]) :
  Calls Tryz.prog 193 #[.slice (some ⟨b,0,none⟩) 4 c] w fun e w'=>e=.returned (.bool (regB x && (regB y && (regB z && regB u))))∧w=w':=by
 have h:=iIsReg (some ⟨b,0,none⟩) c [x,y,z,u] w (cells_blk h) (by simp)
 simpa using h
theorem iIsBinary (o:Int) (w:World):Calls Tryz.prog 194 #[.int .i64 o] w fun e w'=>e=.returned (.bool (inB o 3 9))∧w=w':=by
 go_enter Tryz.func194,Tryz.ntmps194
 go_wp2_with (go_at_call 56; refine (iWithin _ _ _ _).mono ?_; rintro e w' ⟨rfl,rfl⟩)
 go_ret
 exact ⟨rfl,rfl⟩
set_option maxRecDepth 100000 in
set_option maxHeartbeats 3200000 in
theorem iStmtOk (o d a b c n:Int) (w:World) :
  Calls Tryz.prog 184 #[.agg #[.int .i64 o,.int .i64 d,.int .i64 a,.int .i64 b,.int .i64 c,.int .i64 n]] w fun e w'=>e=.returned (.bool (stmtB ⟨o,d,a,b,c,n⟩))∧Below w.heap.size w w':=by
 by_cases h1:o=1
 ·subst h1
  cases h1:(a == 0); rotate_left
  cases h2:(b == 0); rotate_left
  cases h3:(c == 0); rotate_left
  cases h4:regB d
  all_goals
   go_enter Tryz.func184,Tryz.ntmps184
   go_wp2_with (first | (go_at_call 193; refine (iReg1 d _ _ _ (by exact blkcBy)).mono ?_; rintro e w' ⟨rfl,rfl⟩) | (go_at_call 56; refine (iWithin _ _ _ _).mono ?_; rintro e w' ⟨rfl,rfl⟩))
   go_ret
   refine ⟨ret_bool (by rw [stmtB_1]; simp [*]),?_⟩
   exact belBy
 by_cases h2:o=2
 ·subst h2
  cases h1:(b == 0); rotate_left
  cases h2:(c == 0); rotate_left
  cases h3:regB d; rotate_left
  cases h4:inB a 0 4
  all_goals
   go_enter Tryz.func184,Tryz.ntmps184
   go_wp2_with (first | (go_at_call 193; refine (iReg1 d _ _ _ (by exact blkcBy)).mono ?_; rintro e w' ⟨rfl,rfl⟩) | (go_at_call 56; refine (iWithin _ _ _ _).mono ?_; rintro e w' ⟨rfl,rfl⟩))
   go_ret
   refine ⟨ret_bool (by rw [stmtB_2]; simp [*]),?_⟩
   exact belBy
 cases h3:inB o 3 9; rotate_left
 ·have HS:=hid (stmtB_3 d a b c n h3)
  have e1:(o == 1)=false:=by simpa using h1
  have e2:(o == 2)=false:=by simpa using h2
  have HB:=hid (fun w=>iIsBinary o w)
  rw [h3] at HB
  clear h1 h2 h3
  cases h1:(c == 0); rotate_left
  cases h2:(n == 0)
  all_goals
   go_enter Tryz.func184,Tryz.ntmps184
   go_wp2_with (first | (go_at_call 193; refine (iReg3 d a b _ _ _ (by exact blkcBy)).mono ?_; rintro e w' ⟨rfl,rfl⟩) | (go_at_call 194; refine (HB.out _).mono ?_; rintro e w' ⟨rfl,rfl⟩))
   go_ret
   refine ⟨ret_bool (by rw [HS.out]; simp [*]),?_⟩
   exact belBy
 have HB:=hid (fun w=>iIsBinary o w)
 rw [h3] at HB
 by_cases h10:o=10
 ·subst h10
  cases h1:(n == 0)
  all_goals
   go_enter Tryz.func184,Tryz.ntmps184
   go_wp2_with (first | (go_at_call 193; refine (iReg4 d a b c _ _ _ (by exact blkcBy)).mono ?_; rintro e w' ⟨rfl,rfl⟩) | (go_at_call 194; refine (HB.out _).mono ?_; rintro e w' ⟨rfl,rfl⟩))
   go_ret
   refine ⟨ret_bool (by rw [stmtB_10]; simp [*]),?_⟩
   exact belBy
 by_cases h11:o=11
 ·subst h11
  cases h1:(d == 0); rotate_left
  cases h2:(b == 0); rotate_left
  cases h3:(c == 0); rotate_left
  cases h4:(n == 0)
  all_goals
   go_enter Tryz.func184,Tryz.ntmps184
   go_wp2_with (first | (go_at_call 193; refine (iReg1 a _ _ _ (by exact blkcBy)).mono ?_; rintro e w' ⟨rfl,rfl⟩) | (go_at_call 194; refine (HB.out _).mono ?_; rintro e w' ⟨rfl,rfl⟩))
   go_ret
   refine ⟨ret_bool (by rw [stmtB_11]; simp [*]),?_⟩
   exact belBy
 by_cases h12:o=12
 ·subst h12
  cases h1:(d == 0); rotate_left
  cases h2:(a == 0); rotate_left
  cases h3:(b == 0); rotate_left
  cases h4:(c == 0)
  all_goals
   go_enter Tryz.func184,Tryz.ntmps184
   go_wp2_with (first | (go_at_call 194; refine (HB.out _).mono ?_; rintro e w' ⟨rfl,rfl⟩) | (go_at_call 56; refine (iWithin _ _ _ _).mono ?_; rintro e w' ⟨rfl,rfl⟩))
   go_ret
   refine ⟨ret_bool (by rw [stmtB_12]; simp [*]),?_⟩
   exact belBy
 have HS:=hid (stmtB_13 d a b c n h1 h2 h3 h10 h11 h12)
 have e1:(o == 1)=false:=by simpa using h1
 have e2:(o == 2)=false:=by simpa using h2
 have e3:(o == 10)=false:=by simpa using h10
 have e4:(o == 11)=false:=by simpa using h11
 have e5:(o == 12)=false:=by simpa using h12
 clear h1 h2 h3 h10 h11 h12
 cases h1:(o == 13); rotate_left
 cases h2:(d == 0); rotate_left
 cases h3:(a == 0); rotate_left
 cases h4:(b == 0); rotate_left
 cases h5:(c == 0); rotate_left
 cases h6:(n == 0)
 all_goals
  go_enter Tryz.func184,Tryz.ntmps184
  go_wp2_with (go_at_call 194; refine (HB.out _).mono ?_; rintro e w' ⟨rfl,rfl⟩)
  go_ret
  refine ⟨ret_bool (by rw [HS.out]; simp [*]),?_⟩
  exact belBy
end Go.Proofs.YtihbaieiempjeaaGreat
