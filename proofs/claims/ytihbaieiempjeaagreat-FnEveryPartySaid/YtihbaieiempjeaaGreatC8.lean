/- Lemmas of the proof: Circ, Bld, Gate, Full, Bld2, Sum, CopyC, IsWord, Nots. -/
import Derived.Test.YtihbaieiempjeaaGreatC0
import Derived.Test.YtihbaieiempjeaaGreatC7
import Derived.Maps.AppendAt
import Derived.StillTailTactics
import Derived.Deep.RegionHeld3
import Derived.Test.YtihbaieiempjeaaGreatC6
namespace Go.Proofs.YtihbaieiempjeaaGreat
open Go.RowKit
theorem gt_cells {w wr:World} {B:Nat} {A:Option Addr} {L:List Gt} (h:Cells w B A (ints (flatG L))) (hb:Below B w wr) {j:Nat} {k x y:Int} (hj:L[j]? = some ⟨k,x,y⟩) :
  ∃ b off,A=some ⟨b,off,none⟩∧b < B∧wr.cell? ⟨b,off + j * 3,none⟩=some (.int .i64 k)∧wr.cell? ⟨b,off + j * 3 + 1,none⟩=some (.int .i64 x)∧wr.cell? ⟨b,off + j * 3 + 2,none⟩=some (.int .i64 y):=by
 have hl:=(List.getElem?_eq_some_iff.1 hj).1
 obtain ⟨b,off,rfl,hB,hc⟩:=h (by rw [ints_length,flatG_length]; omega)
 have g:=fun (t:Nat) (v:Int) (hx:(threeG ⟨k,x,y⟩)[t]? = some v)=>(hb.cell (p:=⟨b,off + (j * 3 + t),none⟩) hB).trans (hc (j * 3 + t) _ (ints_get (flatG_at hj t v hx)))
 exact ⟨b,off,rfl,hB,g 0 _ rfl,g 1 _ rfl,g 2 _ rfl⟩
theorem int_cells {w wr:World} {B:Nat} {A:Option Addr} {L:List Int} (h:Cells w B A (ints L)) (hb:Below B w wr) {j:Nat} {x:Int} (hj:L[j]? = some x) :
  ∃ b off,A=some ⟨b,off,none⟩∧b < B∧wr.cell? ⟨b,off + j,none⟩=some (.int .i64 x):=by
 have hl:=(List.getElem?_eq_some_iff.1 hj).1
 obtain ⟨b,off,rfl,hB,hc⟩:=h (by rw [ints_length]; omega)
 exact ⟨b,off,rfl,hB,(hb.cell (p:=⟨b,off + j,none⟩) hB).trans (hc j _ (ints_get hj))⟩
theorem gates_at {L:List Gt} {j:Nat} {g:Gt} (h:L[j]? = some g):gatesB j (L.drop j)=(gateB g j && gatesB (j + 1) (L.drop (j + 1))):=by
 rw [drop_st h,gatesB]
theorem outs_at {n:Nat} {L:List Int} {j:Nat} {x:Int} (h:L[j]? = some x):outsB n (L.drop j)=(wireB n x && outsB n (L.drop (j + 1))):=by
 rw [drop_st h]
 rfl
theorem circ_g {gs:List Gt} {os:List Int} (h:gatesB 0 gs=false):circB gs os=false:=by unfold circB; rw [h,Bool.false_and,Bool.and_false]
theorem circ_o {gs:List Gt} {os:List Int} (h:outsB gs.length os=false):circB gs os=false:=by unfold circB; rw [h,Bool.and_false,Bool.and_false]
set_option linter.unusedVariables false in
set_option maxRecDepth 100000 in
set_option maxHeartbeats 3200000 in
theorem iCircOk (G O:Option Addr) (cg co:Nat) (gs:List Gt) (os:List Int) (w:World) (hg:Cells w w.heap.size G (ints (flatG gs))) (ho:Cells w w.heap.size O (ints os)) (hn:gs.length≤1000000) (hm:os.length≤1000000) :
  Calls Tryz.prog 105 #[.agg #[.slice G gs.length cg,.slice O os.length co]] w fun e w'=>e=.returned (.bool (circB gs os))∧Below w.heap.size w w':=by
 by_cases h6:6000 < gs.length
 ·have h6':(6000:Int) < (gs.length:Int):=by omega
  have HP:=hid (show circB gs os=false by unfold circB; rw [decide_eq_false (by omega)]; rfl)
  clear hg ho
  go_enter Tryz.func105,Tryz.ntmps105
  go_wp2
  go_ret
  exact ⟨by rw [HP.out]; rfl,by exact belBy⟩
 have h6':¬ (6000:Int) < (gs.length:Int):=by omega
 have HG:=hid hg
 have HO:=hid ho
 clear hg ho
 go_enter Tryz.func105,Tryz.ntmps105
 have b_0:=(Below.refl w.heap.size w)
 have s_0:=b_0.size
 go_upto_region 1 with fail
 refine wp_forget1 (w0:=w) (B:=w.heap.size) (b0:=w.heap.size) (t0:=40) (c0:=#[.slice G gs.length cg,.slice O os.length co]) ?_ ?_ ?_
 (focus exact blkcBy)
 (focus (exact belBy))
 intro w1 x_1 hX1
 have sX1:=hX1.size
 have x_lt:=x_1.lt
 have b_1:=b_0.trans (hX1.mono (by omega))
 clear b_0 hX1
 have cell_x:=x_1.cell
 have froz_x:=x_1.frozen
 have lt_x:=x_1.lt
 have X1:=hid x_1
 have B1:=hid b_1
 clear x_1 b_1 froz_x lt_x
 go_wp2
 clear cell_x
 go_loopw [3,4,14] (fun _ _ i wr=>∃ (j:Nat),j≤gs.length∧i=.int .i64 j∧gatesB 0 gs=gatesB j (gs.drop j)∧Blk wr w.heap.size 40 #[.slice G gs.length cg,.slice O os.length co]∧Below w.heap.size w wr) (fun _ _ i _=>gs.length - (intOf i).toNat)
 case atStart=>exact ⟨0,Nat.zero_le _,rfl,rfl,X1.out,B1.out⟩
 case round =>
  obtain ⟨j,hj,rfl,hsc,hx,hb⟩:=hrel
  have zb:=hb.size
  by_cases hlt:j < gs.length
  ·obtain ⟨⟨k,a,e⟩,hq⟩:∃ s,gs[j]? = some s:=⟨_,List.getElem?_eq_getElem hlt⟩
   obtain ⟨b,off,rfl,hB,d0,d1,d2⟩:=gt_cells HG.out hb hq
   have hs2:=gates_at hq
   have hlt':(j:Int) < (gs.length:Int):=by omega
   have HS:=hid (fun w=>iGateOk k a e j w)
   obtain ⟨v,hv⟩:∃ v,gateB ⟨k,a,e⟩ (j:Int)=v:=⟨_,rfl⟩
   rw [hv] at HS hs2
   have HSC:=hid (hsc.trans hs2)
   clear hq hsc hs2 hv
   have b_30:=hb
   have s_30:=b_30.size
   have x_30:=hx
   clear hx
   have x_lt:=x_30.lt
   have cell_x:=x_30.cell
   have froz_x:=x_30.frozen
   have lt_x:=x_30.lt
   go_upto_region 6 with fail
   refine wp_forget1 (w0:=wr) (B:=wr.heap.size) (b0:=wr.heap.size) (t0:=96) (c0:=#[.int .i64 k,.int .i64 a,.int .i64 e]) ?_ ?_ ?_
   (focus exact blkcBy)
   (focus (exact belBy))
   intro w31 y_31 hX31
   have sX31:=hX31.size
   have y_lt:=y_31.lt
   have b_31:=b_30.trans (hX31.mono (by omega))
   have x_31:=Blk.past hX31 x_30
   clear x_30 b_30 cell_x froz_x lt_x hX31
   have cell_x:=x_31.cell
   have froz_x:=x_31.frozen
   have lt_x:=x_31.lt
   have cell_y:=y_31.cell
   have froz_y:=y_31.frozen
   have lt_y:=y_31.lt
   go_wp2_with fail
   refine calls_forget0 (W:=w31) ?_ ?_
   (focus (exact belBy))
   intro X32 hX32
   have sX32:=hX32.size
   refine (HS.out _).mono ?_
   rintro e w32 ⟨rfl,hb32⟩
   have s32:=hb32.size
   have hT32:=hX32.trans (hb32.mono sX32)
   have b_32:=b_31.trans (hT32.mono (by omega))
   have x_32:=Blk.past hT32 x_31
   have y_32:=Blk.past hT32 y_31
   clear x_31 y_31 b_31 cell_x froz_x lt_x cell_y froz_y lt_y hX32 hT32 hb32
   have cell_x:=x_32.cell
   have froz_x:=x_32.frozen
   have lt_x:=x_32.lt
   have cell_y:=y_32.cell
   have froz_y:=y_32.frozen
   have lt_y:=y_32.lt
   have HB:=hid b_32
   have HX:=hid x_32
   clear b_32 x_32 y_32 d0 d1 d2
   cases v
   ·have HP:=hid (circ_g (os:=os) (HSC.out.trans (Bool.false_and _)))
    go_wp2
    go_ret
    exact ⟨by rw [HP.out]; rfl,HB.out⟩
   ·go_wp2
    go_roundw
    case rel=>exact ⟨j + 1,by omega,by go_num,HSC.out.trans (Bool.true_and _),HX.out,HB.out⟩
    case measure=>simp [intOf]; omega
  ·obtain rfl:j=gs.length:=by omega
   rw [List.drop_length] at hsc
   have HGG:=hid hsc
   have HX:=hid hx
   have HB:=hid hb
   have cell_x:=hx.cell
   have lt_x:=hx.lt
   clear hsc hx hb X1 B1
   go_wp2
   clear cell_x lt_x
   go_loopw [6,27] (fun _ i wx=>∃ (j:Nat),j≤os.length∧i=.int .i64 j∧outsB gs.length os=outsB gs.length (os.drop j)∧Blk wx w.heap.size 40 #[.slice G gs.length cg,.slice O os.length co]∧Below w.heap.size w wx) (fun _ i _=>os.length - (intOf i).toNat)
   case atStart=>exact ⟨0,Nat.zero_le _,rfl,rfl,HX.out,HB.out⟩
   case round =>
    obtain ⟨j,hj,rfl,hsc,hx,hb⟩:=hrel
    have cell_x:=hx.cell
    have lt_x:=hx.lt
    have HX:=hid hx
    by_cases hlt:j < os.length
    ·obtain ⟨x,hq⟩:∃ s,os[j]? = some s:=⟨_,List.getElem?_eq_getElem hlt⟩
     obtain ⟨b,off,rfl,hB,d0⟩:=int_cells HO.out hb hq
     have hs2:=outs_at (n:=gs.length) hq
     have hlt':(j:Int) < (os.length:Int):=by omega
     have HS:=hid (fun w=>iWithin x 0 ((gs.length:Int) - 1) w)
     have hw:IntKind.i64.wrap ((gs.length:Int) - 1)=(gs.length:Int) - 1:=IntWalk.i64_in _ (by omega)
     obtain ⟨v,hv⟩:∃ v,inB x 0 ((gs.length:Int) - 1)=v:=⟨_,rfl⟩
     have hv2:wireB gs.length x=v:=hv
     rw [hv] at HS
     rw [hv2] at hs2
     have HSC:=hid (hsc.trans hs2)
     have HB:=hid hb
     clear hq hsc hs2 hv hv2 hx hb
     cases v
     ·have HP:=hid (circ_o (HSC.out.trans (Bool.false_and _)))
      go_wp2_with (go_at_call 56; refine (HS.out _).mono ?_; rintro e w' ⟨rfl,rfl⟩)
      go_ret
      exact ⟨by rw [HP.out]; rfl,HB.out⟩
     ·go_wp2_with (go_at_call 56; refine (HS.out _).mono ?_; rintro e w' ⟨rfl,rfl⟩)
      go_roundw
      case rel=>exact ⟨j + 1,by omega,by go_num,HSC.out.trans (Bool.true_and _),HX.out,HB.out⟩
      case measure=>simp [intOf]; omega
    ·obtain rfl:j=os.length:=by omega
     rw [List.drop_length] at hsc
     have HP:=hid (show circB gs os=true by unfold circB; rw [HGG.out,hsc,decide_eq_true (by omega)]; rfl)
     have HB:=hid hb
     clear hsc hx hb
     go_wp2
     go_ret
     exact ⟨by rw [HP.out]; rfl,HB.out⟩
open Go.RowKit
theorem own_ne {w:World} {b1 b2 e1 e2 s1 s2 n1 n2:Nat} {v1 v2:Value} {xs ys:List Value} (h1:w.ownsRow b1 e1 s1 v1 n1 xs) (h2:w.ownsRow b2 e2 s2 v2 n2 ys) (hne:e1≠e2) :
  ∀ q p,v1.ownBlock=some q→v2.ownBlock=some p→q≠p:=by
 intro q p hq hp e
 subst e
 rcases h1.2 with ⟨hv,_⟩ | ⟨g,cap,cur,hv,hg,hh,_⟩
 ·rw [hv] at hq; cases hq
 ·rcases h2.2 with ⟨hv2,_⟩ | ⟨g2,cap2,cur2,hv2,hg2,hh2,_⟩
  ·rw [hv2] at hp; cases hp
  ·rw [hv] at hq
   rw [hv2] at hp
   have e1':g=q:=Option.some.inj hq
   have e2':g2=q:=Option.some.inj hp
   subst e1'
   subst e2'
   rw [hh] at hh2
   injection hh2 with hh2
   injection hh2 with _ h3 _
   exact hne h3
theorem own_off {w:World} {base e size n o t:Nat} {v:Value} {xs:List Value} {cs:Array Value} (h:w.ownsRow base e size v n xs) (k:Blk w o t cs) (hne:e≠t):∀ q,v.ownBlock=some q→base≤q∧q < w.heap.size∧q≠o:=by
 intro q hq
 refine ⟨(h.lt q hq).1,(h.lt q hq).2,?_⟩
 rintro rfl
 rcases h.2 with ⟨hv,_⟩ | ⟨g,cap,cur,hv,_,hh,_⟩
 ·rw [hv] at hq
  cases hq
 ·rw [hv] at hq
  have e1:g=q:=Option.some.inj hq
  subst e1
  unfold Blk at k
  rw [hh] at k
  injection k with k
  injection k with _ k _
  exact hne k
theorem own_setne {w:World} {base e size n:Nat} {v:Value} {xs:List Value} {p:Addr} {u:Value} (h:w.ownsRow base e size v n xs) (hne:∀ q,v.ownBlock=some q→q≠p.block):(w.setCell p u).ownsRow base e size v n xs:=by
 refine ⟨h.1,?_⟩
 rcases h.2 with ⟨hv,hn⟩ | ⟨g,cap,cur,hv,hg,hh,hr⟩
 ·exact Or.inl ⟨hv,hn⟩
 ·refine Or.inr ⟨g,cap,cur,hv,hg,?_,hr⟩
  rw [Below.heap_setCell w p u g (hne g (by rw [hv]; rfl))]
  exact hh
theorem own_ne_obj {w:World} {base e size n o t:Nat} {v:Value} {xs:List Value} {cs:Array Value} (h:w.ownsRow base e size v n xs) (k:Blk w o t cs) (hne:e≠t):∀ q,v.ownBlock=some q→q≠o:=fun q hq=>(own_off h k hne q hq).2.2
abbrev TG:Nat:=96
def Other (T:Nat) (w:World) (i:Nat):Prop:=∀ cs t m,w.heap[i]? = some (.cells cs t m)→t≠T∧t≠TG
structure Stay (T lo:Nat) (w w':World):Prop where
 os:w'.os=w.os
 tape:w'.tape=w.tape
 output:w'.output=w.output
 size:w.heap.size≤w'.heap.size
 block:∀ i,i < w.heap.size→(i < lo∨Other T w i)→w'.heap[i]? = w.heap[i]?
section
variable {T lo:Nat} {w w1 w':World}
theorem Stay.refl (T lo:Nat) (w:World):Stay T lo w w:=⟨rfl,rfl,rfl,Nat.le_refl _,fun _ _ _=>rfl⟩
theorem Stay.trans (h1:Stay T lo w w1) (h2:Stay T lo w1 w'):Stay T lo w w' :=
 ⟨h2.os.trans h1.os,h2.tape.trans h1.tape,h2.output.trans h1.output,Nat.le_trans h1.size h2.size,fun i hi ho=>by
  have e:=h1.block i hi ho
  refine (h2.block i (Nat.lt_of_lt_of_le hi h1.size) ?_).trans e
  rcases ho with ho | ho
  ·exact .inl ho
  ·exact .inr fun cs t m hc=>ho cs t m (e.symm.trans hc)⟩
theorem Stay.below (h:Stay T lo w w') (hl:lo≤w.heap.size):Below lo w w' :=
 ⟨h.os,h.tape,h.output,h.size,fun i hi=>h.block i (by omega) (.inl hi)⟩
theorem Stay.of_below (h:Below w.heap.size w w'):Stay T lo w w':=⟨h.os,h.tape,h.output,h.size,fun i hi _=>h.block i hi⟩
theorem Stay.own (h:Stay T lo w w') {base e size n:Nat} {v:Value} {xs:List Value} (k:w.ownsRow base e size v n xs) (h1:e≠T) (h2:e≠TG):w'.ownsRow base e size v n xs:=by
 refine ⟨k.1,?_⟩
 rcases k.2 with hv | ⟨g,cap,cur,hv,hg,hh,r⟩
 ·exact .inl hv
 ·have hlt:g < w.heap.size:=by
   rcases Nat.lt_or_ge g w.heap.size with h0 | h0
   ·exact h0
   ·rw [Array.getElem?_eq_none h0] at hh; cases hh
  refine .inr ⟨g,cap,cur,hv,hg,(h.block g hlt (.inr fun cs t m hc=>?_)).trans hh,r⟩
  rw [hh] at hc
  injection hc with hc
  injection hc with _ e2 _
  subst e2
  exact ⟨h1,h2⟩
theorem Stay.row (h:Stay T lo w w') {g e size n c:Nat} {xs:List Value} (k:Row w g e size n c xs) (h1:e≠T) (h2:e≠TG):Row w' g e size n c xs:=h.own k h1 h2
theorem Stay.blk (h:Stay T lo w w') {b t:Nat} {cs:Array Value} (k:Blk w b t cs) (h1:t≠T) (h2:t≠TG):Blk w' b t cs :=
 (h.block b k.lt (.inr fun cs' t' m hc=>by
  unfold Blk at k
  rw [k] at hc
  injection hc with hc
  injection hc with _ e2 _
  subst e2
  exact ⟨h1,h2⟩)).trans k
end
def Bld (T:Nat) (w:World) (lo bp:Nat) (gs:List Gt) (O:Value):Prop :=
 ∃ A c,Blk w bp T #[.slice A gs.length c,O]∧lo≤bp∧w.ownsRow lo TG 3 (.slice A gs.length c) gs.length (ints (flatG gs))
def Wd (w:World) (A:Option Addr) (xs:List Int):Prop :=
 ∃ b off cs m,A=some ⟨b,off,none⟩∧w.heap[b]? = some (.cells cs 3 m)∧∀ (i:Nat) (v:Value),(ints xs)[i]? = some v→cs[off + i]? = some v
section
variable {T lo:Nat} {w w':World} {A:Option Addr} {xs:List Int}
theorem Wd.lt {b off:Nat} (h:Wd w (some ⟨b,off,none⟩) xs):b < w.heap.size:=by
 obtain ⟨b',off',cs,m,e,hb,hc⟩:=h
 injection e with e
 injection e with e1 e2
 subst e1 e2
 rcases Nat.lt_or_ge b w.heap.size with h0 | h0
 ·exact h0
 ·rw [Array.getElem?_eq_none h0] at hb; cases hb
theorem Wd.at_ (h:Wd w A xs):∃ b off,A=some ⟨b,off,none⟩:=by
 obtain ⟨b,off,_,_,e,_⟩:=h
 exact ⟨b,off,e⟩
theorem Wd.cell {b off:Nat} (h:Wd w (some ⟨b,off,none⟩) xs) {i:Nat} {x:Int} (hx:xs[i]? = some x):w.cell? ⟨b,off + i,none⟩=some (.int .i64 x):=by
 obtain ⟨b',off',cs,m,e,hb,hc⟩:=h
 injection e with e
 injection e with e1 e2
 subst e1 e2
 have:=hc i _ (ints_get hx)
 simp [World.cell?,hb,this]
theorem Wd.stay (h:Wd w A xs) (hs:Stay T lo w w') (h1:3≠T):Wd w' A xs:=by
 obtain ⟨b,off,cs,m,e,hb,hc⟩:=h
 have hlt:b < w.heap.size:=by
  rcases Nat.lt_or_ge b w.heap.size with h0 | h0
  ·exact h0
  ·rw [Array.getElem?_eq_none h0] at hb; cases hb
 refine ⟨b,off,cs,m,e,(hs.block b hlt (.inr fun cs' t m' hc'=>?_)).trans hb,hc⟩
 rw [hb] at hc'
 injection hc' with hc'
 injection hc' with _ e2 _
 subst e2
 exact ⟨h1,by decide⟩
theorem Wd.below (h:Wd w A xs) (hb:Below w.heap.size w w'):Wd w' A xs:=by
 obtain ⟨b,off,cs,m,e,hh,hc⟩:=h
 have hlt:b < w.heap.size:=by
  rcases Nat.lt_or_ge b w.heap.size with h0 | h0
  ·exact h0
  ·rw [Array.getElem?_eq_none h0] at hh; cases hh
 exact ⟨b,off,cs,m,e,(hb.block b hlt).trans hh,hc⟩
theorem Wd.of_row {g n c:Nat} (h:RowI w g n c xs):Wd w (some ⟨g,0,none⟩) xs:=by
 obtain ⟨h0,cur,h1,h2,h3,h4,h5⟩:=Row.parts h
 refine ⟨g,0,cur,(0,0),rfl,h1,fun i v hv=>?_⟩
 rw [Nat.zero_add]
 rw [←h5,List.getElem?_take] at hv
 split at hv
 ·simpa using hv
 ·cases hv
theorem Wd.drop {b off:Nat} (h:Wd w (some ⟨b,off,none⟩) xs) (k:Nat):Wd w (some ⟨b,off + k,none⟩) (xs.drop k):=by
 obtain ⟨b',off',cs,m,e,hb,hc⟩:=h
 injection e with e
 injection e with e1 e2
 subst e1 e2
 refine ⟨b,off + k,cs,m,rfl,hb,fun i v hv=>?_⟩
 rw [Nat.add_assoc]
 refine hc (k + i) v ?_
 unfold ints at hv ⊢
 rw [List.getElem?_map,List.getElem?_drop] at hv
 rw [List.getElem?_map]
 exact hv
theorem Wd.cells (h:Wd w A xs):Cells w w.heap.size A (ints xs):=fun _=>by
 obtain ⟨b,off,rfl⟩:=h.at_
 refine ⟨b,off,rfl,h.lt,fun i v hv=>?_⟩
 obtain ⟨x,hx,rfl⟩:∃ x,xs[i]? = some x∧Value.int .i64 x=v:=by
  unfold ints at hv
  rw [List.getElem?_map] at hv
  cases hx:xs[i]? with
  | none=>rw [hx] at hv; cases hv
  | some x=>rw [hx] at hv; injection hv with hv; exact ⟨x,rfl,hv⟩
 exact h.cell hx
end
theorem int3_one (a b c:Int):∀ u∈[Value.int .i64 a,.int .i64 b,.int .i64 c],u.oneCell'=true:=by
 intro u hu
 simp at hu
 rcases hu with rfl | rfl | rfl <;> rfl
theorem bld_put {T lo bp:Nat} {w w1:World} {gs:List Gt} {g:Gt} {O:Value} {A A':Option Addr} {c c':Nat} (hT:TG≠T) (hb:Blk w bp T #[.slice A gs.length c,O]) (hl:lo≤bp) (ho:w.ownsRow lo TG 3 (.slice A gs.length c) gs.length (ints (flatG gs)))
  (ho':w1.ownsRow lo TG 3 (.slice A' (gs.length + 1) c') (gs.length + 1) (ints (flatG gs) ++ ints (threeG g))) (hg:w.grownBy w1 (Value.slice A gs.length c).ownBlock) :
  Blk w1 bp T #[.slice A gs.length c,O]∧Bld T (w1.setCell ⟨bp,0,none⟩ (.slice A' (gs.length + 1) c')) lo bp (gs ++ [g]) O∧Stay T lo w (w1.setCell ⟨bp,0,none⟩ (.slice A' (gs.length + 1) c')):=by
 have hb1:=gr_blk hg hb (own_ne_obj ho hb hT)
 have hlen:(gs ++ [g]).length=gs.length + 1:=by simp
 refine ⟨hb1,⟨A',c',?_,hl,?_⟩,⟨hg.os,hg.tape,hg.output,by have:=hg.size; simpa using this,fun i hi hs=>?_⟩⟩
 ·rw [hlen]
  exact hb1.set_ 0 _
 ·rw [hlen,flatG_snoc,ints_app]
  exact own_setne ho' (own_ne_obj ho' hb1 hT)
 ·have hi1:i≠bp:=by
   rcases hs with hs | hs
   ·omega
   ·rintro rfl
    exact (hs _ _ _ hb).1 rfl
  refine (Below.heap_setCell w1 _ _ i hi1).trans (hg.block i hi fun e=>?_)
  rcases hs with hs | hs
  ·have:=(ho.lt i e.symm).1
   omega
  ·rcases ho.2 with ⟨hv,_⟩ | ⟨q,cap,cur,hv,_,hh,_⟩
   ·rw [hv] at e
    cases e
   ·rw [hv] at e
    have e:some i=some q:=e
    injection e with e
    subst e
    exact (hs _ _ _ hh).2 rfl
open Go.RowKit
abbrev TI:Nat:=159
abbrev TS:Nat:=40
set_option linter.unusedVariables false in
theorem iGate {lo bp:Nat} {gs:List Gt} {O:Value} {n:Nat} (k x y:Int) (w:World) (h:Bld TI w lo bp gs O) (hn:gs.length=n) (hs:n≤100000) :
  Calls Tryz.prog 158 #[.pointer (some ⟨bp,0,none⟩),.int .i64 k,.int .i64 x,.int .i64 y] w fun e w'=>e=.returned (.int .i64 (n:Int))∧Bld TI w' lo bp (gs ++ [⟨k,x,y⟩]) O∧Stay TI lo w w':=by
 subst hn
 obtain ⟨A,c,hb,hl,ho⟩:=h
 have cell_b:=hb.cell
 have froz_b:=hb.frozen
 have lt_b:=hb.lt
 have H:=hid (And.intro hb ho)
 clear hb ho
 go_enter Tryz.func158,Tryz.ntmps158
 go_wp2_with (at_builtin; refine wpList_appi rfl _ _ 38 rfl lo TG (.agg #[.int .i64 0,.int .i64 0,.int .i64 0]) 3 24 Tryz.underlying38 infoGt rfl (by decide) _ gs.length _ rfl (H.out.2.alloc _) ⟨w.heap.size,0,none⟩ 1 1 _ rfl rfl (many_new _ [_,_,_] _) (int3_one _ _ _) (by omega) (by decide) (by simp; omega) ?_)
 intro A' c' w1 h1 h2 _
 have h2:=grown_alloc h2
 obtain ⟨hb1,hB,hS⟩:=bld_put (T:=TI) (g:=⟨k,x,y⟩) (by decide) H.out.1 hl H.out.2 h1 h2
 have HR:=hid (And.intro hB hS)
 have cell_b1:=hb1.cell
 have froz_b1:=hb1.frozen
 have lt_b1:=hb1.lt
 have hw:IntKind.i64.wrap ((gs.length + 1:Nat) - 1:Int)=(gs.length:Int):=by rw [IntWalk.i64_in _ (by omega)]; omega
 clear h1 h2 hb1 hB hS cell_b froz_b lt_b H
 go_wp2
 go_ret
 exact ⟨by first | rfl | simp,HR.out.1,HR.out.2⟩
open Go.RowKit
set_option linter.unusedVariables false in
theorem iFull {lo bp:Nat} {gs:List Gt} {O:Value} {n:Nat} (x y c:Int) (w:World) (h:Bld TI w lo bp gs O) (hn:gs.length=n) (hs:n≤90000) :
  Calls Tryz.prog 188 #[.pointer (some ⟨bp,0,none⟩),.int .i64 x,.int .i64 y,.int .i64 c] w fun e w'=>e=.returned (.tuple #[.int .i64 ((n + 2:Nat):Int),.int .i64 ((n + 4:Nat):Int)])∧Bld TI w' lo bp (fullG gs x y c) O∧Stay TI lo w w':=by
 subst hn
 have H0:=hid h
 clear h
 go_enter Tryz.func188,Tryz.ntmps188
 go_wp2_with fail
 refine (iGate (n:=gs.length + 0) _ _ _ _ H0.out (by simp) (by omega)).mono ?_
 rintro e w1 ⟨rfl,h,t⟩
 have H1:=hid h
 have T1:=hid t
 clear h t
 go_wp2_with fail
 refine (iGate (n:=gs.length + 1) _ _ _ _ H1.out (by simp) (by omega)).mono ?_
 rintro e w2 ⟨rfl,h,t⟩
 have H2:=hid h
 have T2:=hid (T1.out.trans t)
 clear h t
 go_wp2_with fail
 refine (iGate (n:=gs.length + 2) _ _ _ _ H2.out (by simp) (by omega)).mono ?_
 rintro e w3 ⟨rfl,h,t⟩
 have H3:=hid h
 have T3:=hid (T2.out.trans t)
 clear h t
 go_wp2_with fail
 refine (iGate (n:=gs.length + 3) _ _ _ _ H3.out (by simp) (by omega)).mono ?_
 rintro e w4 ⟨rfl,h,t⟩
 have H4:=hid h
 have T4:=hid (T3.out.trans t)
 clear h t
 go_wp2_with fail
 refine (iGate (n:=gs.length + 4) _ _ _ _ H4.out (by simp) (by omega)).mono ?_
 rintro e w5 ⟨rfl,h,t⟩
 have H5:=hid h
 have T5:=hid (T4.out.trans t)
 clear h t
 go_wp2
 go_returns
 refine ⟨rfl,?_,T5.out⟩
 have h:=H5.out
 simp only [List.append_assoc,List.cons_append,List.nil_append] at h
 exact h
open Go.RowKit
section
variable {T lo:Nat} {w w0 w1 w':World} {gs:List Gt} {O:Value} {bp g:Nat}
theorem Stay.drew (h:Stay T lo w w'):Stay T lo w w'.drew:=⟨h.os,h.tape,h.output,h.size,h.block⟩
theorem Stay.alloc (h:Stay T lo w w') (o:Obj):Stay T lo w (w'.alloc o) :=
 ⟨h.os,h.tape,h.output,by have:=h.size; simp; omega,fun i hi hn=>(Below.heap_alloc w' o i (Nat.lt_of_lt_of_le hi h.size)).trans (h.block i hi hn)⟩
theorem Stay.past (h:Stay T lo w w1) (hb:Below w1.heap.size w1 w'):Stay T lo w w':=h.trans (Stay.of_below hb)
theorem Stay.grown (h:Stay T lo w w1) (hg:w1.grownBy w' (some g)) (hw:w.heap.size≤g):Stay T lo w w' :=
 ⟨hg.os.trans h.os,hg.tape.trans h.tape,hg.output.trans h.output,Nat.le_trans h.size hg.size,fun i hi hn=>(hg.block i (Nat.lt_of_lt_of_le hi h.size) (fun e=>by injection e with e; omega)).trans (h.block i hi hn)⟩
theorem Stay.onto {X:World} (h:Stay T lo w w1) (t:Stay T lo X w') (h1:X.os=w1.os) (h2:X.tape=w1.tape) (h3:X.output=w1.output) (h4:X.heap=w1.heap):Stay T lo w w' :=
 h.trans ⟨t.os.trans h1,t.tape.trans h2,t.output.trans h3,by rw [←h4]; exact t.size,fun i hi hn=>by
  rw [←h4] at hi ⊢
  refine t.block i hi ?_
  unfold Other at hn ⊢
  rw [h4]
  exact hn⟩
theorem Bld.heap {X:World} (h:Bld T w lo bp gs O) (e:X.heap=w.heap):Bld T X lo bp gs O:=by
 unfold Bld Blk World.ownsRow at h ⊢
 rw [e]
 exact h
theorem Bld.drew (h:Bld T w lo bp gs O):Bld T w.drew lo bp gs O:=h
theorem Bld.below (h:Bld T w lo bp gs O) (hb:Below w.heap.size w w'):Bld T w' lo bp gs O:=by
 obtain ⟨A,c,h1,h2,h3⟩:=h
 exact ⟨A,c,Blk.past hb h1,h2,own_below h3 hb⟩
theorem Bld.grown {n c:Nat} {xs:List Int} (h:Bld T w lo bp gs O) (hg:w.grownBy w' (some g)) (hr:RowI w g n c xs) (hT:3≠T):Bld T w' lo bp gs O:=by
 obtain ⟨A,k,h1,h2,h3⟩:=h
 refine ⟨A,k,gr_blk hg h1 fun q hq=>?_,h2,gr_own hg h3 fun q p hq hp=>?_⟩
 ·injection hq with hq
  subst hq
  exact own_ne_obj hr h1 hT _ rfl
 ·injection hq with hq
  subst hq
  exact own_ne hr h3 (by decide) _ _ rfl hp
theorem Bld.len (h:Bld T w lo bp gs O):bp < w.heap.size∧lo≤bp:=by
 obtain ⟨A,k,h1,h2,_⟩:=h
 exact ⟨h1.lt,h2⟩
theorem Wd.heap {X:World} {A:Option Addr} {xs:List Int} (h:Wd w A xs) (e:X.heap=w.heap):Wd X A xs:=by
 unfold Wd at h ⊢
 rw [e]
 exact h
theorem Wd.onto {X:World} {A:Option Addr} {xs:List Int} (h:Wd w A xs) (t:Stay T lo X w') (e:X.heap=w.heap) (h1:3≠T):Wd w' A xs:=(h.heap e).stay t h1
theorem Row.onto {X:World} {e s n c:Nat} {xs:List Value} (h:Row w g e s n c xs) (t:Stay T lo X w') (he:X.heap=w.heap) (h1:e≠T) (h2:e≠TG):Row w' g e s n c xs:=by
 have h':Row X g e s n c xs:=by
  unfold Row World.ownsRow at h ⊢
  rw [he]
  exact h
 exact t.row h' h1 h2
theorem Wd.grown {xs:List Int} {b off:Nat} (h:Wd w (some ⟨b,off,none⟩) xs) (hg:w.grownBy w' (some g)) (hne:b≠g):Wd w' (some ⟨b,off,none⟩) xs:=by
 have hlt:=h.lt
 obtain ⟨b',off',cs,m,e,hh,hc⟩:=h
 injection e with e
 injection e with e1 e2
 subst e1 e2
 exact ⟨b,off,cs,m,rfl,(hg.block b hlt (fun e=>by injection e with e; omega)).trans hh,hc⟩
end
set_option linter.unusedVariables false in
theorem iIntsAt {b off:Nat} {xs:List Int} {n:Nat} (c:Nat) (w:World) (h:∀ j u,(ints xs)[j]? = some u→w.cell? ⟨b,off + j,none⟩=some u) (hb:b < w.heap.size) (hl:xs.length=n) (hn:n≤100000) :
  Calls Tryz.prog 108 #[.slice (some ⟨b,off,none⟩) n c] w fun e w'=>∃ g k,e=.returned (.slice (some ⟨g,0,none⟩) n k)∧w.heap.size≤g∧RowI w' g n k xs∧Below w.heap.size w w':=by
 have H:=hid h
 clear h
 go_enter Tryz.func108,Tryz.ntmps108
 go_wp2_with (at_builtin; refine app_int (L:=[]) rfl _ _ rfl rfl (Row.new #[] (Nat.zero_le _) rfl rfl) xs rfl hl (fun j u hu=>(cell_alloc (H.out j u hu) hb)) (by omega) ?_)
 intro g' c' w' h1 h2 h3
 have h2:=grown_alloc h2
 have hB:=below_apps (Below.refl w.heap.size w) h2 (Nat.le_refl _) (Nat.le_refl _)
 have HR:=hid (And.intro h1 hB)
 have hg:w.heap.size≤g':=by (try simp at h3); omega
 clear h1 h2 h3 hB
 go_wp2
 go_returns
 exact ⟨g',c',rfl,hg,HR.out.1,HR.out.2⟩
open Go.RowKit
theorem bld_cast {T lo bp:Nat} {w:World} {gs gs':List Gt} {O:Value} (h:Bld T w lo bp gs O) (e:gs=gs'):Bld T w lo bp gs' O:=e ▸ h
theorem row_eq {w:World} {g n c:Nat} {xs ys:List Int} (h:RowI w g n c xs) (e:xs=ys):RowI w g n c ys:=e ▸ h
theorem ints_inv {xs:List Int} {j:Nat} {u:Value} (h:(ints xs)[j]? = some u):∃ x,xs[j]? = some x∧.int .i64 x=u:=by
 unfold ints at h
 rw [List.getElem?_map] at h
 cases hx:xs[j]? with
 | none=>rw [hx] at h; cases h
 | some x=>rw [hx] at h; injection h with h; exact ⟨x,rfl,h⟩
set_option linter.unusedVariables false in
set_option maxRecDepth 100000 in
set_option maxHeartbeats 3200000 in
theorem iSum {lo bp:Nat} {gs:List Gt} {O:Value} {n:Nat} {bx ox cx bY oy cy:Nat} {xs ys:List Int} (first:Int) (f:Nat) (w:World) (h:Bld TI w lo bp gs O) (hn:gs.length=n) (hs:n≤50000) (hx:Wd w (some ⟨bx,ox,none⟩) xs) (hy:Wd w (some ⟨bY,oy,none⟩) ys) (hxl:xs.length=4) (hyl:ys.length=4) (hf:f≤3) (hcx:4≤cx) :
  Calls Tryz.prog 186 #[.pointer (some ⟨bp,0,none⟩),.slice (some ⟨bx,ox,none⟩) 4 cx,.slice (some ⟨bY,oy,none⟩) 4 cy,.int .i64 first,.int .i64 (f:Int)] w fun e w'=>∃ g k,e=.returned (.slice (some ⟨g,0,none⟩) 4 k)∧w.heap.size≤g∧RowI w' g 4 k (xs.take f ++ sumW n (3 - f))∧Bld TI w' lo bp (sumG gs (xs.drop f) (ys.drop f) first (3 - f)) O∧Stay TI lo w w':=by
 subst hn
 have hbx:=hx.lt
 have hby:=hy.lt
 have hbp:=h.len
 obtain ⟨az,hza⟩:∃ a,xs.drop f=a:=⟨_,rfl⟩
 obtain ⟨bs,hzb⟩:∃ a,ys.drop f=a:=⟨_,rfl⟩
 obtain ⟨M,hM⟩:∃ M,3 - f=M:=⟨_,rfl⟩
 obtain ⟨pre,hpre⟩:∃ a,xs.take f=a:=⟨_,rfl⟩
 have hal:∀ m,m≤M→xs[f + m]? = some (az.getD m 0)∧ys[f + m]? = some (bs.getD m 0):=fun m hm=>by
  rw [←hza,←hzb,List.getD_eq_getElem?_getD,List.getD_eq_getElem?_getD,List.getElem?_drop,List.getElem?_drop,List.getElem?_eq_getElem (show f + m < xs.length by omega),List.getElem?_eq_getElem (show f + m < ys.length by omega)]
  exact ⟨rfl,rfl⟩
 have hpl:pre.length=f:=by rw [←hpre,List.length_take]; omega
 have HPC:=hid (show ∀ j u,(ints pre)[j]? = some u→w.cell? ⟨bx,ox + j,none⟩=some u from fun j u hu=>by
  obtain ⟨x,hx1,rfl⟩:=ints_inv hu
  rw [←hpre,List.getElem?_take] at hx1
  split at hx1
  ·exact hx.cell hx1
  ·cases hx1)
 rw [hza,hzb,hM,hpre]
 have HAL:=hid hal
 have H0:=hid (And.intro h (And.intro hx hy))
 clear h hx hy hal
 go_enter Tryz.func186,Tryz.ntmps186
 have hfc:(f:Int)≤(cx:Int):=by omega
 go_wp2_with fail
 refine (iIntsAt _ _ HPC.out hbx hpl (by omega)).mono ?_
 rintro e w1 ⟨go,ko,rfl,hgo,ho,hb⟩
 have z1:=hb.size
 have H1:=hid (And.intro (H0.out.1.below hb) (And.intro (H0.out.2.1.below hb) (And.intro (H0.out.2.2.below hb) (And.intro ho (Stay.of_below (T:=TI) (lo:=lo) hb)))))
 clear ho hb H0 HPC
 go_wp2_with fail
 refine (iGate (n:=gs.length) _ _ _ _ H1.out.1 rfl (by omega)).mono ?_
 rintro e w2 ⟨rfl,h,t⟩
 have z2:=t.size
 have H2:=hid (And.intro h (And.intro (H1.out.2.1.stay t (by decide)) (And.intro (H1.out.2.2.1.stay t (by decide)) (And.intro (t.row H1.out.2.2.2.1 (by decide) (by decide)) (H1.out.2.2.2.2.trans t)))))
 clear h t H1
 go_wp2_with fail
 go_loopw [11,12,13,14,15] (fun o c i _ _ wr=>∃ (m q g k:Nat),m≤M∧q=f + m∧i=.int .i64 (q:Int)∧(∃ C:Int,c=.int .i64 C∧C=((gs.length + 5 * m:Nat):Int))∧o=.slice (some ⟨g,0,none⟩) q k∧w.heap.size≤g∧Bld TI wr lo bp (sumTo gs az bs first m) O∧Wd wr (some ⟨bx,ox,none⟩) xs∧Wd wr (some ⟨bY,oy,none⟩) ys∧RowI wr g q k (pre ++ sumWs gs.length m)∧Stay TI lo w wr) (fun _ _ i _ _ _=>3 - (intOf i).toNat)
 case atStart=>exact ⟨0,f,go,ko,Nat.zero_le _,rfl,rfl,⟨_,rfl,rfl⟩,rfl,hgo,H2.out.1,H2.out.2.1,H2.out.2.2.1,by show RowI _ _ _ _ (pre ++ []); rw [List.append_nil]; exact H2.out.2.2.2.1,H2.out.2.2.2.2⟩
 case round =>
  clear H2
  obtain ⟨m,q,g,k,hm,hq,rfl,⟨C,rfl,hC⟩,rfl,hg,hB,hX,hY,hR,hS⟩:=hrel
  have HC:=hid hC
  have zr:=hS.size
  obtain ⟨e1,e2⟩:=HAL.out m hm
  rw [←hq] at e1 e2
  have HQ:=hid hq
  clear hq
  obtain ⟨xa,hxa⟩:∃ x,az.getD m 0=x:=⟨_,rfl⟩
  obtain ⟨ya,hya⟩:∃ x,bs.getD m 0=x:=⟨_,rfl⟩
  rw [hxa] at e1
  rw [hya] at e2
  have HXY:=hid (And.intro hxa hya)
  have d1:=hX.cell e1
  have d2:=hY.cell e2
  have lx:bx < wr.heap.size:=by omega
  have ly:bY < wr.heap.size:=by omega
  obtain ⟨N1,hN1⟩:∃ N,gs.length + 5 * m + 1=N:=⟨_,rfl⟩
  have hlen:=sumTo_length gs az bs first m
  rw [hN1] at hlen
  have hnb:N1≤90000:=by omega
  have hB0:=hB
  have hX0:=hX
  have hY0:=hY
  have hti:3≠TI:=by decide
  have H:=hid (And.intro hB (And.intro hX (And.intro hY (And.intro hR hS))))
  clear hB hX hY hR hS hxa hya hC
  by_cases hlt:m < M
  ·have hlt':(q:Int) < 3:=by have:=HQ.out; omega
   have hi4:(q:Int) < 4:=by have:=HQ.out; omega
   have hi0:(0:Int)≤(q:Int):=by omega
   go_upto_region 6 with fail
   go_region_held3 (fun w'=>w'.cell? ⟨bx,ox + q,none⟩=some (.int .i64 xa)∧w'.cell? ⟨bY,oy + q,none⟩=some (.int .i64 ya)) (first | exact ⟨d1,d2⟩ | exact ⟨d1',d2'⟩) ((go_at_call 188; refine Calls.mono (iFull (n:=N1) _ _ _ _ (Bld.heap hB0 rfl) hlen hnb) ?_; rintro e w3 ⟨rfl,h,t⟩; have d1':=(Wd.onto hX0 t rfl hti).cell e1; have d2':=(Wd.onto hY0 t rfl hti).cell e2))
   all_goals
    have z3:=t.size
    have hS3:=H.out.2.2.2.2.onto t rfl rfl rfl rfl
    have zs:=hS3.size
    have HR3:=hid (Row.onto H.out.2.2.2.1 t rfl (by decide) (by decide))
    have H3:=hid (And.intro h (And.intro (Wd.onto H.out.2.1 t rfl (by decide)) (And.intro (Wd.onto H.out.2.2.1 t rfl (by decide)) hS3)))
    clear h t hS3 H d1 d2 hB0 hX0 hY0 e1 e2 d1' d2'
    go_wp2_with (at_builtin; refine app_int rfl _ _ rfl rfl (HR3.out.alloc _) [((N1 + 2:Nat):Int)] rfl rfl (top_cells _ [_] _) (by omega) ?_)
    intro g' k' w4 h1 h2 h3
    have h2:=grown_alloc h2
    have hg':w.heap.size≤g':=by (try simp at h3); omega
    have hne1:bx≠g:=by omega
    have he3:((N1 + 2:Nat):Int)=((gs.length + 5 * m + 3:Nat):Int):=by omega
    have hne2:bY≠g:=by omega
    have H4:=hid (And.intro (H3.out.1.grown h2 HR3.out (by decide)) (And.intro (H3.out.2.1.grown h2 hne1) (And.intro (H3.out.2.2.1.grown h2 hne2) (And.intro (row_eq (ys:=pre ++ sumWs gs.length (m + 1)) h1 (by rw [sumWs,←he3]; first | rfl | simp)) (H3.out.2.2.2.grown h2 hg)))))
    clear h1 h2 h3 H3 HR3
    go_wp2
    go_roundw
    case rel =>
     refine ⟨m + 1,q + 1,g',k',by omega,by have:=HQ.out; omega,by go_num,⟨_,rfl,by omega⟩,rfl,hg',bld_cast H4.out.1 (by rw [sumTo,HXY.out.1,HXY.out.2,HC.out]),H4.out.2.1,H4.out.2.2.1,?_,H4.out.2.2.2.2⟩
     exact H4.out.2.2.2.1
    case measure=>have:=HQ.out; simp [intOf]; omega
  ·obtain rfl:m=M:=by omega
   have h3:q=3:=by have:=HQ.out; omega
   have hlt':¬ (q:Int) < 3:=by omega
   subst h3
   go_upto_region 9 with fail
   go_still_tail 7,(by kernel_rfl)
   go_wp2_with fail
   refine Calls.mono (iGate (n:=N1) _ _ _ _ (Bld.heap hB0 rfl) hlen (by omega)) ?_
   rintro e w3 ⟨rfl,h,t⟩
   have hS3:=H.out.2.2.2.2.onto t rfl rfl rfl rfl
   have H3:=hid (And.intro h (And.intro (Row.onto H.out.2.2.2.1 t rfl (by decide) (by decide)) hS3))
   clear h t hS3 H d1 d2 hB0 hX0 hY0 e1 e2
   go_wp2_with fail
   refine (iGate (n:=N1 + 1) _ _ _ _ H3.out.1 (by rw [List.length_append,hlen]; rfl) (by omega)).mono ?_
   rintro e w5 ⟨rfl,h,t⟩
   have hS5:=H3.out.2.2.trans t
   have zs:=hS5.size
   have HR5:=hid (t.row H3.out.2.1 (by decide) (by decide))
   have H5:=hid (And.intro h hS5)
   clear h t hS5 H3
   go_wp2_with (at_builtin; refine app_int rfl _ _ rfl rfl (HR5.out.alloc _) [((N1 + 1:Nat):Int)] rfl rfl (top_cells _ [_] _) (by omega) ?_)
   intro g' k' w6 h1 h2 h3
   have h2:=grown_alloc h2
   have hg':w.heap.size≤g':=by (try simp at h3); omega
   have he3:((N1 + 1:Nat):Int)=((gs.length + 5 * m + 2:Nat):Int):=by omega
   have H6:=hid (And.intro (H5.out.1.grown h2 HR5.out (by decide)) (And.intro (row_eq (ys:=pre ++ sumW gs.length m) h1 (by rw [sumW,←he3]; first | rfl | simp)) (H5.out.2.grown h2 hg)))
   clear h1 h2 h3 H5 HR5
   go_wp2
   go_returns
   refine ⟨g',k',rfl,hg',?_,?_,H6.out.2.2⟩
   ·exact H6.out.2.1
   ·exact bld_cast H6.out.1 (by unfold sumG; rw [HXY.out.1,HXY.out.2,HC.out]; simp; omega)
open Go.RowKit
def specOf (l:List (Nat × (Value→World→Prop))) (k:Nat):GSpec:=match l.lookup k with
 | some F=>.any F
 | none=>.det
theorem specOf_stab:∀ {l:List (Nat × (Value→World→Prop))},(∀ p∈l,∀ v w w',p.2 v w→Grows w w'→p.2 v w')→∀ k F,specOf l k=.any F→∀ v w w',F v w→Grows w w'→F v w':=by
 intro l h k F hk
 unfold specOf at hk
 split at hk
 ·rename_i G hG
  cases hk
  have:∀ (l:List (Nat × (Value→World→Prop))),l.lookup k=some F→∃ p∈l,p.2=F:=by
   intro l
   induction l with
   | nil=>intro h; cases h
   | cons p l ih =>
    intro h
    obtain ⟨a,b⟩:=p
    rw [List.lookup_cons] at h
    split at h
    ·cases h
     exact ⟨_,List.mem_cons_self,rfl⟩
    ·obtain ⟨p,hp,e⟩:=ih h
     exact ⟨p,List.mem_cons_of_mem _ hp,e⟩
  obtain ⟨p,hp,rfl⟩:=this l hG
  exact h p hp
 ·cases hk
theorem gList_quietN {P:Program} {ops:Array Oper} {C:World→Prop} {R:World→World→Prop} {spec:Nat→GSpec} {E:Facts→Act→Prop} (m:Nat) {l:List Oper} {k:Nat} {fs:Facts} {a:Act} (hd:detsFrom spec k (l.take m)) (hm:m≤l.length)
  (h:wpQuiet P ops C (fun a'=>gList P ops C R spec E (k + m) (l.drop m) fs a') (l.take m) a):gList P ops C R spec E k l fs a:=by
 have h1:=gList_quiet (l.take m) (l2:=l.drop m) hd (E:=E) (R:=R) (fs:=fs) (a:=a) (P:=P) (ops:=ops) (C:=C) (by rw [List.length_take,Nat.min_eq_left hm]; exact h)
 rwa [List.take_append_drop] at h1
set_option maxHeartbeats 3200000 in
theorem grow_lit {P:Program} {t e base size:Nat} {w:World} {o:Oper} {a:Act} (ho:o.op=Op.buildSlice t 0 #[]) (hr:∀ w:World,(Instr.buildSlice t 0 #[]).run P w=.ok (.slice (some ⟨w.heap.size,0,none⟩) 0 0) (w.alloc (.cells #[] e)))
  (hb:base≤w.heap.size):growUpon P Grows (LitOf base e size) w ((execOp a.eval o).run P w):=by
 simp [execOp,ho,growUpon,hr,Result.andThen]
 exact ⟨(Below.refl _ _).alloc (Nat.le_refl _) _,lit_made hb⟩
theorem grow_copy {P:Program} {w:World} {base t e:Nat} {z:Value} {size bytes:Nat} (ht:P.underlying t=some (.slice e)) (hinfo:(P.info? e).map (fun i=>(i.zero,i.size,i.bytes))=some (some z,size,bytes))
  (hzs:z.cells.size=size) (hsz:0 < size) {o:Oper} {a:Act} {x y:Operand} {s:Value} {A:Option Addr} {n c B:Nat} {xs:List Value} (ho:o.op=.call { callee:=.builtin .append,args:=#[x,y],argTypes:=#[t,t] }) (hx:a.eval x=s) (hy:a.eval y=.slice A n c)
  (hs:LitOf base e size s w) (hl:xs.length=n * size) (hc:Cells w B A xs) (hnil:A=none→c=0) (h1:∀ u∈xs,u.oneCell'=true) (hn:n≤1000000000) (hbytes:bytes≤1000) (hbase:base≤w.heap.size) :
  growUpon P Grows (RowOf base e size n xs) w ((execOp a.eval o).run P w):=by
 obtain ⟨v,w',hr,hg,hrow⟩:=run_copy (P:=P) (w:=w) (ty:=o.type) ht hinfo hzs hsz hs hl hc hnil h1 hn hbytes hbase
 have e:(execOp a.eval o).run P w=.ok (.value v) w':=by
  unfold execOp
  simp only [ho,resolve,invoke,builtin,Sem.run_bind,Sem.run_pure,Result.andThen_ok,List.map_toArray,List.map_cons,List.map_nil,hx,hy,hr]
 rw [e]
 exact ⟨hg,hrow⟩
theorem own_nil {w:World} {base e size n c:Nat} {A:Option Addr} {xs:List Value} (h:w.ownsRow base e size (.slice A n c) n xs):A=none→c=0:=by
 rcases h.2 with ⟨hv,rfl⟩ | ⟨g,cap,cur,hv,_⟩
 ·cases hv
  exact fun _=>rfl
 ·cases hv
  exact fun h=>by cases h
theorem wpList_copy {P:Program} {w:World} {base t e:Nat} {z:Value} {size bytes:Nat} (ht:P.underlying t=some (.slice e)) (hinfo:(P.info? e).map (fun i=>(i.zero,i.size,i.bytes))=some (some z,size,bytes))
  (hzs:z.cells.size=size) (hsz:0 < size) {ops:Array Oper} {rest:List Oper} {Q:Exit→Act→World→Prop} {o:Oper} {a:Act} (hgd:o.guard=none) {x y:Operand} {s:Value} {A:Option Addr} {n c B:Nat} {xs:List Value}
  (ho:o.op=.call { callee:=.builtin .append,args:=#[x,y],argTypes:=#[t,t] }) (hx:a.eval x=s) (hy:a.eval y=.slice A n c)
  (hs:LitOf base e size s w) (hl:xs.length=n * size) (hc:Cells w B A xs) (hnil:A=none→c=0) (h1:∀ u∈xs,u.oneCell'=true) (hn:n≤1000000000) (hbytes:bytes≤1000) (hbase:base≤w.heap.size)
  (h:∀ A' c' w',w'.ownsRow base e size (.slice A' n c') n xs→Below w.heap.size w w'→wpList P ops Q rest (a.put o.dst (.slice A' n c')) w'):wpList P ops Q (o :: rest) a w:=by
 refine wpList_plain hgd fun K hK=>?_
 obtain ⟨v,w',hr,hg,A',c',rfl,hrow⟩:=run_copy (P:=P) (w:=w) (ty:=o.type) ht hinfo hzs hsz hs hl hc hnil h1 hn hbytes hbase
 unfold Oper.wp execOp
 simp only [ho,resolve,invoke,builtin,Sem.run_bind,Sem.run_pure,Result.andThen_ok,List.map_toArray,List.map_cons,List.map_nil,hx,hy,hr]
 exact hK _ _ (h A' c' w' hrow hg)
theorem iIntsO (A:Option Addr) (c n:Nat) (xs:List Int) (w:World) (h:w.ownsRow 0 3 1 (.slice A n c) n (ints xs)) (hn:n≤1000000000) :
  Calls Tryz.prog 108 #[.slice A n c] w fun e w'=>∃ A' c',e=.returned (.slice A' n c')∧w'.ownsRow w.heap.size 3 1 (.slice A' n c') n (ints xs)∧Below w.heap.size w w':=by
 have hc:=Cells.of_own h
 have hlen:=h.1
 have hnil:=own_nil h
 have HLIT:=hid (lit_made (w:=w) (base:=w.heap.size) (e:=3) (size:=1) (Nat.le_refl _))
 have HC:=hid hc
 have HL:=hid hlen
 have HN:=hid hnil
 clear hc hlen hnil h
 go_enter Tryz.func108,Tryz.ntmps108
 go_wp2_with (at_builtin; refine wpList_copy Tryz.underlying30 infoI rfl (by decide) rfl rfl rfl rfl HLIT.out HL.out (HC.out.below ((Below.refl _ _).alloc (Nat.le_refl _) _)) HN.out (ints_one _) hn (by decide) (by simp) ?_; intro A' c' w1 hrow hb)
 have HR:=hid hrow
 have HB:=hid hb
 clear hrow hb
 go_ret
 refine ⟨A',c',rfl,HR.out,?_⟩
 have hb:Below w.heap.size w w1:=((Below.refl w.heap.size w).alloc (Nat.le_refl _) _).trans (HB.out.mono (by simp))
 exact hb
theorem litGate (w:World):(Instr.buildSlice 38 0 #[]).run Tryz.prog w=.ok (.slice (some ⟨w.heap.size,0,none⟩) 0 0) (w.alloc (.cells #[] 96)):=by kernel_rfl
def CircRows (B n m:Nat) (gs os:List Int) (u:Value) (w:World):Prop :=
 ∃ G cg O co,u=.agg #[.slice G n cg,.slice O m co]∧w.ownsRow B TG 3 (.slice G n cg) n (ints gs)∧w.ownsRow B 3 1 (.slice O m co) m (ints os)
theorem CircRows.stable {B n m:Nat} {gs os:List Int}:∀ v w w',CircRows B n m gs os v w→Grows w w'→CircRows B n m gs os v w':=by
 rintro v w w' ⟨G,cg,O,co,e,h1,h2⟩ hg
 exact ⟨G,cg,O,co,e,own_below h1 hg,own_below h2 hg⟩
set_option maxRecDepth 100000 in
theorem iCopyC (G O:Option Addr) (n cg m co:Nat) (gs os:List Int) (w:World) (h1:w.ownsRow 0 TG 3 (.slice G n cg) n (ints gs)) (h2:w.ownsRow 0 3 1 (.slice O m co) m (ints os)) (b1:n≤1000000) (b2:m≤1000000) :
  Calls Tryz.prog 156 #[.agg #[.slice G n cg,.slice O m co]] w fun e w'=>∃ G' cg' O' co',e=.returned (.agg #[.slice G' n cg',.slice O' m co']) ∧
   w'.ownsRow w.heap.size TG 3 (.slice G' n cg') n (ints gs)∧w'.ownsRow w.heap.size 3 1 (.slice O' m co') m (ints os)∧Below w.heap.size w w':=by
 go_enter Tryz.func156,Tryz.ntmps156
 have b_0:=(Below.refl w.heap.size w)
 have s_0:=b_0.size
 have og_in:=own_in h1
 have og_0:=h1
 clear h1
 have oo_in:=own_in h2
 have oo_0:=h2
 clear h2
 go_upto_region 1 with fail
 refine wp_forget2 (w0:=w) (B:=w.heap.size) (b0:=w.heap.size) (t0:=40) (c0:=#[.slice G n cg,.slice O m co]) (b1:=w.heap.size + 1) (t1:=40) (c1:=#[.slice none 0 0,.slice none 0 0]) ?_ ?_ ?_ ?_
 (focus exact blkcBy)
 (focus exact blkcBy)
 (focus (exact belBy))
 intro w1 x_1 r_1 hX1
 have sX1:=hX1.size
 have x_lt:=x_1.lt
 have r_lt:=r_1.lt
 have b_1:=b_0.trans (hX1.mono (by omega))
 have og_1:=own_below og_0 hX1
 have oo_1:=own_below oo_0 hX1
 clear og_0 oo_0 b_0 hX1
 have cell_x:=x_1.cell
 have froz_x:=x_1.frozen
 have lt_x:=x_1.lt
 have cell_r:=r_1.cell
 have froz_r:=r_1.frozen
 have lt_r:=r_1.lt
 have HOG:=hid og_1
 have HOO:=hid oo_1
 have HR:=hid r_1
 have HB:=hid b_1
 clear og_1 oo_1 r_1 b_1
 refine wp_grow_tail (W:=w1) (spec:=specOf [(0,LitOf w1.heap.size TG 3),(3,RowOf w1.heap.size TG 3 n (ints gs)),(6,RowOf w1.heap.size 3 1 m (ints os)),(7,CircRows w1.heap.size n m gs os)]) 8 (by kernel_rfl) (by kernel_rfl) (Onward.mk' ((Below.refl _ _).drew)) (specOf_stab ?_) ?_
 ·intro p hp
  simp only [List.mem_cons,List.not_mem_nil,or_false] at hp
  rcases hp with rfl | rfl | rfl | rfl
  all_goals
   first | exact LitOf.stable | exact RowOf.stable | exact CircRows.stable
 ·have q0:=fun (x:Later w1) (o:Nat)=>(x_1.below x.below x_1.lt).cell o
  refine gList_any (LitOf w1.heap.size TG 3) rfl rfl (fun w' hC _=>?_) (fun v0=>?_)
  ·obtain ⟨⟨w',hb⟩,rfl⟩:=hC
   exact grow_lit rfl litGate hb.size
  refine gList_quietN 2 ⟨rfl,rfl,rfl,rfl,trivial⟩ (by decide) ?_
  simp only [Act.put,List.setIfInBounds_toArray,List.set_cons_succ,List.set_cons_zero]
  delta Onward
  dsimp only [List.take,List.drop]
  repeat (go_big_quiet_step (fail))
  refine wpQuiet_nil ?_
  refine gList_any (RowOf w1.heap.size TG 3 n (ints gs)) rfl rfl (fun w' hC hd=>?_) (fun v3=>?_)
  ·obtain ⟨⟨w',hb⟩,rfl⟩:=hC
   have hl:=hd 0 (by kernel_rfl)
   rw [Facts.upd_self] at hl
   exact grow_copy Tryz.underlying38 infoGt rfl (by decide) rfl rfl rfl hl HOG.out.1 ((Cells.of_own HOG.out).below hb) (own_nil HOG.out) (ints_one _) (by omega) (by decide) hb.size
  refine gList_quietN 2 ⟨rfl,rfl,rfl,rfl,trivial⟩ (by decide) ?_
  simp only [Act.put,List.setIfInBounds_toArray,List.set_cons_succ,List.set_cons_zero]
  dsimp only [List.take,List.drop]
  repeat (go_big_quiet_step (fail))
  refine wpQuiet_nil ?_
  refine gList_any (RowOf w1.heap.size 3 1 m (ints os)) rfl rfl (fun w' hC hd=>?_) (fun v6=>?_)
  ·obtain ⟨⟨w',hb⟩,rfl⟩:=hC
   refine grow_call (f:=108) (args:=#[.slice O m co]) (by simp [go_sem]) ?_
   refine (iIntsO O co m os w' (own_below HOO.out hb) (by omega)).mono ?_
   rintro e w2 ⟨A',c',rfl,hrow,hb2⟩
   exact ⟨_,rfl,hb2,A',c',rfl,own_weak hrow hb.size⟩
  refine gList_any (CircRows w1.heap.size n m gs os) rfl rfl (fun w' hC hd=>?_) (fun v7=>?_)
  ·obtain ⟨⟨w',hb⟩,rfl⟩:=hC
   have g1:RowOf w1.heap.size TG 3 n (ints gs) v3 w':=hd 3 (by kernel_rfl)
   have g2:RowOf w1.heap.size 3 1 m (ints os) v6 w':=hd 6 (by kernel_rfl)
   obtain ⟨J',cj',rfl,g1⟩:=g1
   obtain ⟨T',ct',rfl,g2⟩:=g2
   have HG1:=hid g1
   have HG2:=hid g2
   clear g1 g2
   simp [go_sem,growUpon]
   exact ⟨Below.refl _ _,_,_,_,_,rfl,HG1.out,HG2.out⟩
  unfold gList
  intro w' hW hfs
  have hlast:CircRows w1.heap.size n m gs os v7 w':=hfs 7
  obtain ⟨⟨w',hb⟩,rfl⟩:=hW
  obtain ⟨J',cj',T',ct',rfl,g1,g2⟩:=hlast
  have HG1:=hid g1
  have HG2:=hid g2
  have HB2:=hid hb
  have kr:=HR.out.past hb
  have cell_r2:=kr.cell
  have froz_r2:=kr.frozen
  have lt_r2:=kr.lt
  have HKR:=hid kr
  clear g1 g2 hfs hb q0 kr
  dsimp only [List.drop]
  simp only [Act.put,List.setIfInBounds_toArray,List.set_cons_succ,List.set_cons_zero]
  go_wp2_with fail
  ((try simp only [Exit.inBlock,Exit.then]); apply bodyPost_ret0; focus ((try simp only [results,Tryz.results156]); (try go_simp); (try rfl)))
  refine ⟨J',cj',T',ct',rfl,?_,?_,?_⟩
  ·refine own_weak (base:=w1.heap.size) ?_ (by omega)
   have h:=HG1.out
   exact ownBy
  ·refine own_weak (base:=w1.heap.size) ?_ (by omega)
   have h:=HG2.out
   exact ownBy
  ·have hb0:=HB.out
   have hb2:=HB2.out
   exact belBy
open Go.RowKit
theorem circ_yes {gs:List Gt} (h:gatesB 0 gs=true) (hl:gs.length≤5900):circB gs []=true:=by
 unfold circB
 rw [h,decide_eq_true (by omega)]
 rfl
def WordsOk (w:World) (n:Nat) (vals:List Value):Prop:=∀ (j:Nat) (v:Value),vals[j]? = some v→∃ b off c xs,v=Value.slice (some ⟨b,off,none⟩) 4 c∧Wd w (some ⟨b,off,none⟩) xs∧wordB4 n xs=true
theorem wordB4_at {n:Nat} {xs:List Int} (h:wordB4 n xs=true):xs.length=4∧∀ {i:Nat} {x:Int},xs[i]? = some x→inB x 0 ((n:Int) - 1)=true:=by
 unfold wordB4 at h
 rw [Bool.and_eq_true,decide_eq_true_eq] at h
 refine ⟨h.1,fun {i x} hx=>?_⟩
 exact List.all_eq_true.1 h.2 x (List.mem_of_getElem? hx)
set_option linter.unusedVariables false in
set_option maxRecDepth 100000 in
set_option maxHeartbeats 3200000 in
theorem iIsWordOf (G O W:Option Addr) (cg co cw nw:Nat) (gs:List Gt) (vals:List Value) (w:World) (hg:Cells w w.heap.size G (ints (flatG gs))) (hok:gatesB 0 gs=true) (hl:gs.length≤5900) (hv:vals.length=nw) (hc:Cells w w.heap.size W vals) (hw:WordsOk w gs.length vals) (hn:nw≤1000) :
  Calls Tryz.prog 157 #[.agg #[.slice G gs.length cg,.slice O 0 co],.slice W nw cw] w fun e w'=>e=.returned (.bool true)∧Below w.heap.size w w':=by
 have HG:=hid hg
 have HC:=hid hc
 have HW:=hid hw
 have HCO:=hid (fun w hg=>iCircOk G O cg co gs [] w hg Cells.nil_ (by omega) (by simp))
 rw [circ_yes hok hl] at HCO
 clear hg hc hw
 go_enter Tryz.func157,Tryz.ntmps157
 have b_0:=(Below.refl w.heap.size w)
 have s_0:=b_0.size
 go_upto_region 1 with fail
 refine wp_forget1 (w0:=w) (B:=w.heap.size) (b0:=w.heap.size) (t0:=40) (c0:=#[.slice G gs.length cg,.slice O 0 co]) ?_ ?_ ?_
 (focus exact blkcBy)
 (focus (exact belBy))
 intro w1 x_1 hX1
 have sX1:=hX1.size
 have x_lt:=x_1.lt
 have b_1:=b_0.trans (hX1.mono (by omega))
 clear b_0 hX1
 have cell_x:=x_1.cell
 have froz_x:=x_1.frozen
 have lt_x:=x_1.lt
 have X1:=hid x_1
 have B1:=hid b_1
 clear x_1 b_1 froz_x lt_x cell_x
 go_wp2
 go_loopw [6,8,11,17] (fun _ _ i _ wr=>∃ (j:Nat),j≤nw∧i=.int .i64 j∧Blk wr w.heap.size 40 #[.slice G gs.length cg,.slice O 0 co]∧Below w.heap.size w wr) (fun _ _ i _ _=>nw - (intOf i).toNat)
 case atStart=>exact ⟨0,Nat.zero_le _,rfl,X1.out,B1.out⟩
 case round =>
  obtain ⟨j,hj,rfl,hx,hb⟩:=hrel
  have zb:=hb.size
  have HX:=hid hx
  have HB:=hid hb
  by_cases hlt:j < nw
  ·obtain ⟨v,hq⟩:∃ s,vals[j]? = some s:=⟨_,List.getElem?_eq_getElem (by omega)⟩
   obtain ⟨bw,ow,rfl,hB,hcl⟩:=HC.out (by omega)
   obtain ⟨b,off,c,xs,rfl,hxs,hwx⟩:=HW.out j v hq
   have d0:wr.cell? ⟨bw,ow + j,none⟩=some (.slice (some ⟨b,off,none⟩) 4 c):=(hb.cell (p:=⟨bw,ow + j,none⟩) hB).trans (hcl j _ hq)
   have hlt':(j:Int) < (nw:Int):=by omega
   obtain ⟨hx4,hxw⟩:=wordB4_at hwx
   have HXS:=hid hxs
   have HXW:=hid (fun (i:Nat) (x:Int) (h:xs[i]? = some x)=>hxw h)
   clear hcl hq hx hb hwx hxw hxs
   go_wp2
   clear d0
   go_loopw [8,17] (fun _ i wx=>∃ (k:Nat),k≤4∧i=.int .i64 k∧Blk wx w.heap.size 40 #[.slice G gs.length cg,.slice O 0 co]∧Below w.heap.size w wx) (fun _ i _=>4 - (intOf i).toNat)
   case atStart=>exact ⟨0,Nat.zero_le _,rfl,HX.out,HB.out⟩
   case round =>
    obtain ⟨k,hk,rfl,hx,hb⟩:=hrel
    have cell_x:=hx.cell
    have lt_x:=hx.lt
    have HX2:=hid hx
    have HB2:=hid hb
    by_cases hlk:k < 4
    ·obtain ⟨x,hq⟩:∃ s,xs[k]? = some s:=⟨_,List.getElem?_eq_getElem (by omega)⟩
     have d0:wr.cell? ⟨b,off + k,none⟩=some (.int .i64 x):=(hb.cell (p:=⟨b,off + k,none⟩) HXS.out.lt).trans (HXS.out.cell hq)
     have hlk':(k:Int) < 4:=by omega
     have hwr:IntKind.i64.wrap ((gs.length:Int) - 1)=(gs.length:Int) - 1:=IntWalk.i64_in _ (by omega)
     have HI:=hid (fun w=>iWithin x 0 ((gs.length:Int) - 1) w)
     rw [HXW.out k x hq] at HI
     clear hq hx hb
     go_wp2_with (go_at_call 56; refine (HI.out _).mono ?_; rintro e w' ⟨rfl,rfl⟩)
     go_roundw
     case rel=>exact ⟨k + 1,by omega,by go_num,HX2.out,HB2.out⟩
     case measure=>simp [intOf]; omega
    ·obtain rfl:k=4:=by omega
     clear hx hb cell_x lt_x
     go_wp2
     go_roundw
     case rel=>exact ⟨j + 1,by omega,by go_num,HX2.out,HB2.out⟩
     case measure=>simp [intOf]; omega
  ·obtain rfl:j=nw:=by omega
   have cell_x:=hx.cell
   have lt_x:=hx.lt
   have hl':(gs.length:Int)≤5900:=by omega
   clear hx hb cell_x lt_x
   have hx:=HX.out
   have hb:=HB.out
   have b_40:=hb
   have s_40:=b_40.size
   have x_40:=hx
   clear hx
   have x_lt:=x_40.lt
   have cell_x:=x_40.cell
   have froz_x:=x_40.frozen
   have lt_x:=x_40.lt
   go_wp2_with fail
   refine calls_forget0 (W:=wr) ?_ ?_
   (focus (exact belBy))
   intro X41 hX41
   have sX41:=hX41.size
   refine (HCO.out _ ((HG.out.below (b_40.trans (hX41.mono (by omega)))).more (by have:=hX41.size; omega))).mono ?_
   rintro e w41 ⟨rfl,hb41⟩
   have s41:=hb41.size
   have hT41:=hX41.trans (hb41.mono sX41)
   have b_41:=b_40.trans (hT41.mono (by omega))
   have x_41:=Blk.past hT41 x_40
   clear x_40 b_40 cell_x froz_x lt_x hX41 hT41 hb41
   have cell_x:=x_41.cell
   have froz_x:=x_41.frozen
   have lt_x:=x_41.lt
   have HB41:=hid b_41
   clear b_41 x_41
   go_wp2
   go_ret
   exact ⟨rfl,HB41.out⟩
open Go.RowKit
set_option linter.unusedVariables false in
set_option maxRecDepth 100000 in
set_option maxHeartbeats 3200000 in
theorem iNots {lo bp:Nat} {gs:List Gt} {O:Value} {n N bx ox cx:Nat} {xs:List Int} (w:World) (h:Bld TI w lo bp gs O) (hn:gs.length=n) (hs:n≤50000) (hx:Wd w (some ⟨bx,ox,none⟩) xs) (hxl:xs.length=N) (hN:N≤100) :
  Calls Tryz.prog 187 #[.pointer (some ⟨bp,0,none⟩),.slice (some ⟨bx,ox,none⟩) N cx] w fun e w'=>∃ g k,e=.returned (.slice (some ⟨g,0,none⟩) N k)∧w.heap.size≤g∧RowI w' g N k (upW n N)∧Bld TI w' lo bp (notsG gs xs) O∧Stay TI lo w w':=by
 subst hn
 have hbx:=hx.lt
 have hbp:=h.len
 have H0:=hid (And.intro h hx)
 clear h hx
 go_enter Tryz.func187,Tryz.ntmps187
 go_upto_region 2 with fail
 obtain ⟨w1,hw1⟩:∃ w1,w1=w.alloc (.cells #[] 3):=⟨_,rfl⟩
 have hb:Below w.heap.size w w1:=by rw [hw1]; exact (Below.refl _ _).alloc (Nat.le_refl _) _
 have ho:RowI w1 w.heap.size 0 0 []:=by rw [hw1]; exact Row.new #[] (Nat.zero_le _) rfl rfl
 rw [←hw1]
 have H1:=hid (And.intro (H0.out.1.below hb) (And.intro (H0.out.2.below hb) (And.intro ho (Stay.of_below (T:=TI) (lo:=lo) hb))))
 clear ho hb H0 hw1
 go_wp2_with fail
 go_loopw [5,7,11] (fun o _ i wr=>∃ (m g k:Nat),m≤N∧i=.int .i64 (m:Int)∧o=.slice (some ⟨g,0,none⟩) m k∧w.heap.size≤g∧Bld TI wr lo bp (notsG gs (xs.take m)) O∧Wd wr (some ⟨bx,ox,none⟩) xs∧RowI wr g m k (upW gs.length m)∧Stay TI lo w wr) (fun _ _ i _=>N - (intOf i).toNat)
 case atStart=>exact ⟨0,w.heap.size,0,Nat.zero_le _,rfl,rfl,Nat.le_refl _,bld_cast H1.out.1 (by unfold notsG; simp),H1.out.2.1,H1.out.2.2.1,H1.out.2.2.2⟩
 case round =>
  clear H1
  obtain ⟨m,g,k,hm,rfl,rfl,hg,hB,hX,hR,hS⟩:=hrel
  have zr:=hS.size
  have lx:bx < wr.heap.size:=by omega
  by_cases hlt:m < N
  ·obtain ⟨x,e1⟩:∃ x,xs[m]? = some x:=⟨_,List.getElem?_eq_getElem (by omega)⟩
   have d1:=hX.cell e1
   have hlt':(m:Int) < (N:Int):=by omega
   have hlen:(notsG gs (xs.take m)).length=gs.length + m:=by rw [notsG_length,List.length_take]; omega
   have HT:=hid (show notsG gs (xs.take (m + 1))=notsG gs (xs.take m) ++ [⟨5,x,0⟩] by unfold notsG; rw [take_snoc e1,List.map_append,List.append_assoc]; rfl)
   have H:=hid (And.intro hB (And.intro hX (And.intro hR hS)))
   clear hB hX hR hS e1
   go_wp2_with fail
   refine Calls.mono (iGate (n:=gs.length + m) _ _ _ _ H.out.1 hlen (by omega)) ?_
   rintro e w3 ⟨rfl,h,t⟩
   have z3:=t.size
   have HR3:=hid (t.row H.out.2.2.1 (by decide) (by decide))
   have H3:=hid (And.intro h (And.intro (H.out.2.1.stay t (by decide)) (H.out.2.2.2.trans t)))
   clear h t H d1
   go_wp2_with (at_builtin; refine app_int rfl _ _ rfl rfl (HR3.out.alloc _) [((gs.length + m:Nat):Int)] rfl rfl (top_cells _ [_] _) (by omega) ?_)
   intro g' k' w4 h1 h2 h3
   have h2:=grown_alloc h2
   have hg':w.heap.size≤g':=by (try simp at h3); omega
   have H4:=hid (And.intro (H3.out.1.grown h2 HR3.out (by decide)) (And.intro (H3.out.2.1.grown h2 (by omega)) (And.intro (row_eq (ys:=upW gs.length (m + 1)) h1 (by rw [upW]; first | rfl | simp)) (H3.out.2.2.grown h2 hg))))
   clear h1 h2 h3 H3 HR3
   go_wp2
   go_roundw
   case rel=>exact ⟨m + 1,g',k',by omega,by go_num,rfl,hg',bld_cast H4.out.1 HT.out.symm,H4.out.2.1,H4.out.2.2.1,H4.out.2.2.2⟩
   case measure=>simp [intOf]; omega
  ·obtain rfl:m=N:=by omega
   have hlt':¬ (m:Int) < (m:Int):=by omega
   have ht:xs.take m=xs:=by rw [←hxl,List.take_length]
   rw [ht] at hB
   have H:=hid (And.intro hB (And.intro hR hS))
   clear hB hX hR hS ht
   go_wp2
   go_returns
   exact ⟨g,k,rfl,hg,H.out.2.1,H.out.1,H.out.2.2⟩
end Go.Proofs.YtihbaieiempjeaaGreat
