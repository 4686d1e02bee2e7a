/- Lemmas of the proof: PruT. -/
import Derived.Test.YtihbaieiempjeaaGreatD0
import Derived.Test.YtihbaieiempjeaaGreatD5
import Derived.Test.YtihbaieiempjeaaGreatD4
import Derived.Laws.StructEq
import Derived.Deep.DeepCutAuto
import Derived.Test.YtihbaieiempjeaaGreatD14
namespace Go.Proofs.YtihbaieiempjeaaGreat
open Go.RowKit
theorem len3g {α:Type} (l:List α) (h:l.length=3):∃ a b c,l=[a,b,c]:=by
 match l,h with
 | [a,b,c],_=>exact ⟨a,b,c,rfl⟩
theorem run_equalIn_gt (w:World) (a b c d e f:Int) :
  (Op.equalIn 10000 96 (.agg #[.int .i64 a,.int .i64 b,.int .i64 c]) (.agg #[.int .i64 d,.int .i64 e,.int .i64 f])).run Tryz.prog w=.ok (eqGt ⟨a,b,c⟩ ⟨d,e,f⟩) w:=by
 rw [run_equalIn_struct w 9999 _ _ _ (by kernel_rfl) (by kernel_rfl)]
 have hf : (Tryz.prog.fieldsOf 96).toList.map (fun f => (f.name, f.type, f.offset)) = [("Kind", 3, 0), ("A", 3, 1), ("B", 3, 2)] := by kernel_rfl
 generalize (Tryz.prog.fieldsOf 96).toList=L at hf ⊢
 have hlen:L.length=3:=by simpa using congrArg List.length hf
 obtain ⟨f0,f1,f2,rfl⟩:=len3g _ hlen
 simp only [List.map_cons,List.map_nil,List.cons.injEq,Prod.mk.injEq,and_true] at hf
 obtain ⟨⟨n0,t0,o0⟩,⟨n1,t1,o1⟩,n2,t2,o2⟩:=hf
 have q0 : f0.name ≠ "_" := by rw [n0]; decide
 have q1 : f1.name ≠ "_" := by rw [n1]; decide
 have q2 : f2.name ≠ "_" := by rw [n2]; decide
 clear n0 n1 n2 hlen
 simp only [Op.eqFields,t0,t1,t2,o0,o1,o2]
 cases h0:a == d <;> cases h1:b == e <;> cases h2:c == f
 all_goals
  go_simp
  simp [eqGt, *]
theorem run_eqGuard_gt (w:World) (x y:Operand) (xs ys:Array Value):(eqGuard .eql 96 x y (.agg xs) (.agg ys)).run Tryz.prog w=.ok () w:=run_eqGuard_agg w _ _ _ _ _ _ (by kernel_rfl)
attribute [local go_sem ↓] run_equalIn_gt run_eqGuard_gt
theorem findG_step {gs:List Gt} {g h:Gt} {j:Nat} (hj:j≤findG gs g) (hx:gs[j]? = some h) (hne:eqGt h g=false):j + 1≤findG gs g:=by
 rcases Nat.lt_or_ge j (findG gs g) with h1 | h1
 ·exact h1
 ·have e:findG gs g=j:=by omega
  have hl:=(List.getElem?_eq_some_iff.1 hx).1
  have:=findG_lt (l:=gs) (g:=g) (by omega)
  rw [e,hx] at this
  injection this with this
  rw [eqGt_iff.2 this] at hne
  cases hne
theorem findG_hit {gs:List Gt} {g h:Gt} {j:Nat} (hj:j≤findG gs g) (hx:gs[j]? = some h) (he:eqGt h g=true):findG gs g=j:=by
 rw [eqGt_iff.1 he] at hx
 have:=findG_at hx
 omega
theorem put_hit {gs:List Gt} {g:Gt} {j:Nat} (h:findG gs g=j) (hj:j < gs.length):putG gs g=gs:=by unfold putG; rw [if_pos (by omega)]
theorem put_end {gs:List Gt} {g:Gt} (h:gs.length≤findG gs g):putG gs g=gs ++ [g]∧findG gs g=gs.length:=by
 have:=findG_le gs g
 exact ⟨by unfold putG; rw [if_neg (by omega)],by omega⟩
def srt (k a b:Int):Gt:=if (k=3∨k=4)∧b < a then ⟨k,b,a⟩ else ⟨k,a,b⟩
set_option linter.unusedVariables false in
set_option maxRecDepth 100000 in
set_option maxHeartbeats 3200000 in
theorem sGateP {lo bp:Nat} {gs:List Gt} {O:Value} (k a b:Int) (w:World) (h:Bld TS w lo bp gs O) (hs:gs.length≤10000) :
  Calls Tryz.prog 130 #[.pointer (some ⟨bp,0,none⟩),.int .i64 k,.int .i64 a,.int .i64 b] w fun e w'=>e=.returned (.int .i64 (findG gs (srt k a b):Int))∧Bld TS w' lo bp (putG gs (srt k a b)) O∧Stay TS lo w w':=by
 have HBL:=hid h
 obtain ⟨A,c,hb,hl,ho⟩:=h
 have HO:=hid (Cells.of_own ho)
 clear ho
 by_cases hba:b < a
 ·by_cases h3:k=3
  ·subst h3
   have e:srt 3 a b=⟨3,b,a⟩:=by unfold srt; rw [if_pos ⟨.inl rfl,hba⟩]
   rw [e]
   clear e
   go_enter Tryz.func130,Tryz.ntmps130
   have b_0:=(Below.refl w.heap.size w)
   have s_0:=b_0.size
   have x_0:=hb
   clear hb
   have x_lt:=x_0.lt
   have cell_x:=x_0.cell
   have froz_x:=x_0.frozen
   have lt_x:=x_0.lt
   go_upto_region 4 with fail
   refine wp_forget1 (w0:=w) (B:=w.heap.size) (b0:=w.heap.size) (t0:=96) (c0:=#[.int .i64 3,.int .i64 b,.int .i64 a]) ?_ ?_ ?_
   (focus exact blkcBy)
   (focus (exact belBy))
   intro w1 q_1 hX1
   have sX1:=hX1.size
   have q_lt:=q_1.lt
   have b_1:=b_0.trans (hX1.mono (by omega))
   have x_1:=Blk.past hX1 x_0
   clear x_0 b_0 cell_x froz_x lt_x hX1
   have cell_x:=x_1.cell
   have froz_x:=x_1.frozen
   have lt_x:=x_1.lt
   have cell_q:=q_1.cell
   have froz_q:=q_1.frozen
   have lt_q:=q_1.lt
   have H1:=hid (And.intro x_1 (And.intro q_1 (And.intro (HO.out.below b_1) b_1)))
   have z1:=b_1.size
   clear x_1 q_1 b_1 cell_x froz_x lt_x cell_q froz_q lt_q HO
   go_wp2_with fail
   go_loopw [10] (fun i wr=>∃ j:Nat,i=.int .i64 (j:Int)∧j≤gs.length∧j≤findG gs ⟨3,b,a⟩∧Below w1.heap.size w1 wr) (fun i _=>gs.length - (intOf i).toNat)
   case atStart=>exact ⟨0,rfl,Nat.zero_le _,Nat.zero_le _,Below.refl _ _⟩
   case round =>
    obtain ⟨j,rfl,hj,hf,hbr⟩:=hrel
    have zr:=hbr.size
    have hx:=H1.out.1.past hbr
    have hq:=H1.out.2.1.past hbr
    have cell_x:=hx.cell
    have lt_x:=hx.lt
    have cell_q:=hq.cell
    have lt_q:=hq.lt
    have HB:=hid hbr
    clear hx hq
    by_cases hlt:j < gs.length
    ·obtain ⟨⟨k',a',b'⟩,hg⟩:∃ s,gs[j]? = some s:=⟨_,List.getElem?_eq_getElem hlt⟩
     obtain ⟨bg,og,rfl,hB,d0,d1,d2⟩:=gt_cells H1.out.2.2.1 (hbr.mono z1) hg
     have hlt':(j:Int) < (gs.length:Int):=by omega
     have j00:(0:Int)≤(j:Int):=by omega
     obtain ⟨v,hv⟩:∃ v,eqGt ⟨k',a',b'⟩ ⟨3,b,a⟩=v:=⟨_,rfl⟩
     have HG:=hid (And.intro hf (And.intro hg hv))
     have ev:eqGt ⟨k',a',b'⟩ ⟨3,b,a⟩=v:=hv
     have c0:=cell_x 0
     have q0:=cell_q 0
     have q1:=cell_q 1
     have q2:=cell_q 2
     clear hbr hf hg hv
     go_wp2_with fail
     go_quiet (fail)
     cases v
     ·go_wp2
      go_roundw
      case rel=>exact ⟨j + 1,by go_num,by omega,findG_step HG.out.1 HG.out.2.1 HG.out.2.2,below_drewN HB.out⟩
      case measure=>simp [intOf]; omega
     ·go_wp2
      go_returns
      have e:=findG_hit HG.out.1 HG.out.2.1 HG.out.2.2
      refine ⟨by rw [e]; rfl,?_,?_⟩
      ·rw [put_hit e hlt]
       exact HBL.out.below (H1.out.2.2.2.trans ((below_drewN HB.out).mono z1))
      ·exact Stay.of_below (H1.out.2.2.2.trans ((below_drewN HB.out).mono z1))
    ·obtain rfl:j=gs.length:=by omega
     obtain ⟨e1,e2⟩:=put_end hf
     have HE:=hid (And.intro e1 e2)
     clear hf hbr e1 e2
     have hb2:=H1.out.2.2.2.trans (HB.out.mono z1)
     have HB2:=hid hb2
     have hbl:=HBL.out.below hb2
     clear hb2
     go_wp2_with fail
     refine Calls.mono (sGate 3 b a _ hbl rfl (by omega)) ?_
     rintro e w5 ⟨rfl,h5,t5⟩
     have HF:=hid (And.intro h5 ((Stay.of_below HB2.out).trans t5))
     clear h5 t5 hbl
     go_wp2
     go_returns
     exact ⟨by rw [HE.out.2]; rfl,by rw [HE.out.1]; exact HF.out.1,HF.out.2⟩
  by_cases h4:k=4
  ·subst h4
   have e:srt 4 a b=⟨4,b,a⟩:=by unfold srt; rw [if_pos ⟨.inr rfl,hba⟩]
   rw [e]
   clear e h3
   go_enter Tryz.func130,Tryz.ntmps130
   have b_0:=(Below.refl w.heap.size w)
   have s_0:=b_0.size
   have x_0:=hb
   clear hb
   have x_lt:=x_0.lt
   have cell_x:=x_0.cell
   have froz_x:=x_0.frozen
   have lt_x:=x_0.lt
   go_upto_region 4 with fail
   refine wp_forget1 (w0:=w) (B:=w.heap.size) (b0:=w.heap.size) (t0:=96) (c0:=#[.int .i64 4,.int .i64 b,.int .i64 a]) ?_ ?_ ?_
   (focus exact blkcBy)
   (focus (exact belBy))
   intro w1 q_1 hX1
   have sX1:=hX1.size
   have q_lt:=q_1.lt
   have b_1:=b_0.trans (hX1.mono (by omega))
   have x_1:=Blk.past hX1 x_0
   clear x_0 b_0 cell_x froz_x lt_x hX1
   have cell_x:=x_1.cell
   have froz_x:=x_1.frozen
   have lt_x:=x_1.lt
   have cell_q:=q_1.cell
   have froz_q:=q_1.frozen
   have lt_q:=q_1.lt
   have H1:=hid (And.intro x_1 (And.intro q_1 (And.intro (HO.out.below b_1) b_1)))
   have z1:=b_1.size
   clear x_1 q_1 b_1 cell_x froz_x lt_x cell_q froz_q lt_q HO
   go_wp2_with fail
   go_loopw [10] (fun i wr=>∃ j:Nat,i=.int .i64 (j:Int)∧j≤gs.length∧j≤findG gs ⟨4,b,a⟩∧Below w1.heap.size w1 wr) (fun i _=>gs.length - (intOf i).toNat)
   case atStart=>exact ⟨0,rfl,Nat.zero_le _,Nat.zero_le _,Below.refl _ _⟩
   case round =>
    obtain ⟨j,rfl,hj,hf,hbr⟩:=hrel
    have zr:=hbr.size
    have hx:=H1.out.1.past hbr
    have hq:=H1.out.2.1.past hbr
    have cell_x:=hx.cell
    have lt_x:=hx.lt
    have cell_q:=hq.cell
    have lt_q:=hq.lt
    have HB:=hid hbr
    clear hx hq
    by_cases hlt:j < gs.length
    ·obtain ⟨⟨k',a',b'⟩,hg⟩:∃ s,gs[j]? = some s:=⟨_,List.getElem?_eq_getElem hlt⟩
     obtain ⟨bg,og,rfl,hB,d0,d1,d2⟩:=gt_cells H1.out.2.2.1 (hbr.mono z1) hg
     have hlt':(j:Int) < (gs.length:Int):=by omega
     have j00:(0:Int)≤(j:Int):=by omega
     obtain ⟨v,hv⟩:∃ v,eqGt ⟨k',a',b'⟩ ⟨4,b,a⟩=v:=⟨_,rfl⟩
     have HG:=hid (And.intro hf (And.intro hg hv))
     have ev:eqGt ⟨k',a',b'⟩ ⟨4,b,a⟩=v:=hv
     have c0:=cell_x 0
     have q0:=cell_q 0
     have q1:=cell_q 1
     have q2:=cell_q 2
     clear hbr hf hg hv
     go_wp2_with fail
     go_quiet (fail)
     cases v
     ·go_wp2
      go_roundw
      case rel=>exact ⟨j + 1,by go_num,by omega,findG_step HG.out.1 HG.out.2.1 HG.out.2.2,below_drewN HB.out⟩
      case measure=>simp [intOf]; omega
     ·go_wp2
      go_returns
      have e:=findG_hit HG.out.1 HG.out.2.1 HG.out.2.2
      refine ⟨by rw [e]; rfl,?_,?_⟩
      ·rw [put_hit e hlt]
       exact HBL.out.below (H1.out.2.2.2.trans ((below_drewN HB.out).mono z1))
      ·exact Stay.of_below (H1.out.2.2.2.trans ((below_drewN HB.out).mono z1))
    ·obtain rfl:j=gs.length:=by omega
     obtain ⟨e1,e2⟩:=put_end hf
     have HE:=hid (And.intro e1 e2)
     clear hf hbr e1 e2
     have hb2:=H1.out.2.2.2.trans (HB.out.mono z1)
     have HB2:=hid hb2
     have hbl:=HBL.out.below hb2
     clear hb2
     go_wp2_with fail
     refine Calls.mono (sGate 4 b a _ hbl rfl (by omega)) ?_
     rintro e w5 ⟨rfl,h5,t5⟩
     have HF:=hid (And.intro h5 ((Stay.of_below HB2.out).trans t5))
     clear h5 t5 hbl
     go_wp2
     go_returns
     exact ⟨by rw [HE.out.2]; rfl,by rw [HE.out.1]; exact HF.out.1,HF.out.2⟩
  ·have e:srt k a b=⟨k,a,b⟩:=by unfold srt; rw [if_neg (by omega)]
   have k3:(k == 3)=false:=by simpa using h3
   have k4:(k == 4)=false:=by simpa using h4
   rw [e]
   clear e h3 h4
   go_enter Tryz.func130,Tryz.ntmps130
   have b_0:=(Below.refl w.heap.size w)
   have s_0:=b_0.size
   have x_0:=hb
   clear hb
   have x_lt:=x_0.lt
   have cell_x:=x_0.cell
   have froz_x:=x_0.frozen
   have lt_x:=x_0.lt
   go_upto_region 4 with fail
   refine wp_forget1 (w0:=w) (B:=w.heap.size) (b0:=w.heap.size) (t0:=96) (c0:=#[.int .i64 k,.int .i64 a,.int .i64 b]) ?_ ?_ ?_
   (focus exact blkcBy)
   (focus (exact belBy))
   intro w1 q_1 hX1
   have sX1:=hX1.size
   have q_lt:=q_1.lt
   have b_1:=b_0.trans (hX1.mono (by omega))
   have x_1:=Blk.past hX1 x_0
   clear x_0 b_0 cell_x froz_x lt_x hX1
   have cell_x:=x_1.cell
   have froz_x:=x_1.frozen
   have lt_x:=x_1.lt
   have cell_q:=q_1.cell
   have froz_q:=q_1.frozen
   have lt_q:=q_1.lt
   have H1:=hid (And.intro x_1 (And.intro q_1 (And.intro (HO.out.below b_1) b_1)))
   have z1:=b_1.size
   clear x_1 q_1 b_1 cell_x froz_x lt_x cell_q froz_q lt_q HO
   go_wp2_with fail
   go_loopw [10] (fun i wr=>∃ j:Nat,i=.int .i64 (j:Int)∧j≤gs.length∧j≤findG gs ⟨k,a,b⟩∧Below w1.heap.size w1 wr) (fun i _=>gs.length - (intOf i).toNat)
   case atStart=>exact ⟨0,rfl,Nat.zero_le _,Nat.zero_le _,Below.refl _ _⟩
   case round =>
    obtain ⟨j,rfl,hj,hf,hbr⟩:=hrel
    have zr:=hbr.size
    have hx:=H1.out.1.past hbr
    have hq:=H1.out.2.1.past hbr
    have cell_x:=hx.cell
    have lt_x:=hx.lt
    have cell_q:=hq.cell
    have lt_q:=hq.lt
    have HB:=hid hbr
    clear hx hq
    by_cases hlt:j < gs.length
    ·obtain ⟨⟨k',a',b'⟩,hg⟩:∃ s,gs[j]? = some s:=⟨_,List.getElem?_eq_getElem hlt⟩
     obtain ⟨bg,og,rfl,hB,d0,d1,d2⟩:=gt_cells H1.out.2.2.1 (hbr.mono z1) hg
     have hlt':(j:Int) < (gs.length:Int):=by omega
     have j00:(0:Int)≤(j:Int):=by omega
     obtain ⟨v,hv⟩:∃ v,eqGt ⟨k',a',b'⟩ ⟨k,a,b⟩=v:=⟨_,rfl⟩
     have HG:=hid (And.intro hf (And.intro hg hv))
     have ev:eqGt ⟨k',a',b'⟩ ⟨k,a,b⟩=v:=hv
     have c0:=cell_x 0
     have q0:=cell_q 0
     have q1:=cell_q 1
     have q2:=cell_q 2
     clear hbr hf hg hv
     go_wp2_with fail
     go_quiet (fail)
     cases v
     ·go_wp2
      go_roundw
      case rel=>exact ⟨j + 1,by go_num,by omega,findG_step HG.out.1 HG.out.2.1 HG.out.2.2,below_drewN HB.out⟩
      case measure=>simp [intOf]; omega
     ·go_wp2
      go_returns
      have e:=findG_hit HG.out.1 HG.out.2.1 HG.out.2.2
      refine ⟨by rw [e]; rfl,?_,?_⟩
      ·rw [put_hit e hlt]
       exact HBL.out.below (H1.out.2.2.2.trans ((below_drewN HB.out).mono z1))
      ·exact Stay.of_below (H1.out.2.2.2.trans ((below_drewN HB.out).mono z1))
    ·obtain rfl:j=gs.length:=by omega
     obtain ⟨e1,e2⟩:=put_end hf
     have HE:=hid (And.intro e1 e2)
     clear hf hbr e1 e2
     have hb2:=H1.out.2.2.2.trans (HB.out.mono z1)
     have HB2:=hid hb2
     have hbl:=HBL.out.below hb2
     clear hb2
     go_wp2_with fail
     refine Calls.mono (sGate k a b _ hbl rfl (by omega)) ?_
     rintro e w5 ⟨rfl,h5,t5⟩
     have HF:=hid (And.intro h5 ((Stay.of_below HB2.out).trans t5))
     clear h5 t5 hbl
     go_wp2
     go_returns
     exact ⟨by rw [HE.out.2]; rfl,by rw [HE.out.1]; exact HF.out.1,HF.out.2⟩
 ·have e:srt k a b=⟨k,a,b⟩:=by unfold srt; rw [if_neg (by omega)]
  rw [e]
  clear e
  go_enter Tryz.func130,Tryz.ntmps130
  have b_0:=(Below.refl w.heap.size w)
  have s_0:=b_0.size
  have x_0:=hb
  clear hb
  have x_lt:=x_0.lt
  have cell_x:=x_0.cell
  have froz_x:=x_0.frozen
  have lt_x:=x_0.lt
  go_upto_region 4 with fail
  refine wp_forget1 (w0:=w) (B:=w.heap.size) (b0:=w.heap.size) (t0:=96) (c0:=#[.int .i64 k,.int .i64 a,.int .i64 b]) ?_ ?_ ?_
  (focus exact blkcBy)
  (focus (exact belBy))
  intro w1 q_1 hX1
  have sX1:=hX1.size
  have q_lt:=q_1.lt
  have b_1:=b_0.trans (hX1.mono (by omega))
  have x_1:=Blk.past hX1 x_0
  clear x_0 b_0 cell_x froz_x lt_x hX1
  have cell_x:=x_1.cell
  have froz_x:=x_1.frozen
  have lt_x:=x_1.lt
  have cell_q:=q_1.cell
  have froz_q:=q_1.frozen
  have lt_q:=q_1.lt
  have H1:=hid (And.intro x_1 (And.intro q_1 (And.intro (HO.out.below b_1) b_1)))
  have z1:=b_1.size
  clear x_1 q_1 b_1 cell_x froz_x lt_x cell_q froz_q lt_q HO
  go_wp2_with fail
  go_loopw [10] (fun i wr=>∃ j:Nat,i=.int .i64 (j:Int)∧j≤gs.length∧j≤findG gs ⟨k,a,b⟩∧Below w1.heap.size w1 wr) (fun i _=>gs.length - (intOf i).toNat)
  case atStart=>exact ⟨0,rfl,Nat.zero_le _,Nat.zero_le _,Below.refl _ _⟩
  case round =>
   obtain ⟨j,rfl,hj,hf,hbr⟩:=hrel
   have zr:=hbr.size
   have hx:=H1.out.1.past hbr
   have hq:=H1.out.2.1.past hbr
   have cell_x:=hx.cell
   have lt_x:=hx.lt
   have cell_q:=hq.cell
   have lt_q:=hq.lt
   have HB:=hid hbr
   clear hx hq
   by_cases hlt:j < gs.length
   ·obtain ⟨⟨k',a',b'⟩,hg⟩:∃ s,gs[j]? = some s:=⟨_,List.getElem?_eq_getElem hlt⟩
    obtain ⟨bg,og,rfl,hB,d0,d1,d2⟩:=gt_cells H1.out.2.2.1 (hbr.mono z1) hg
    have hlt':(j:Int) < (gs.length:Int):=by omega
    have j00:(0:Int)≤(j:Int):=by omega
    obtain ⟨v,hv⟩:∃ v,eqGt ⟨k',a',b'⟩ ⟨k,a,b⟩=v:=⟨_,rfl⟩
    have HG:=hid (And.intro hf (And.intro hg hv))
    have ev:eqGt ⟨k',a',b'⟩ ⟨k,a,b⟩=v:=hv
    have c0:=cell_x 0
    have q0:=cell_q 0
    have q1:=cell_q 1
    have q2:=cell_q 2
    clear hbr hf hg hv
    go_wp2_with fail
    go_quiet (fail)
    cases v
    ·go_wp2
     go_roundw
     case rel=>exact ⟨j + 1,by go_num,by omega,findG_step HG.out.1 HG.out.2.1 HG.out.2.2,below_drewN HB.out⟩
     case measure=>simp [intOf]; omega
    ·go_wp2
     go_returns
     have e:=findG_hit HG.out.1 HG.out.2.1 HG.out.2.2
     refine ⟨by rw [e]; rfl,?_,?_⟩
     ·rw [put_hit e hlt]
      exact HBL.out.below (H1.out.2.2.2.trans ((below_drewN HB.out).mono z1))
     ·exact Stay.of_below (H1.out.2.2.2.trans ((below_drewN HB.out).mono z1))
   ·obtain rfl:j=gs.length:=by omega
    obtain ⟨e1,e2⟩:=put_end hf
    have HE:=hid (And.intro e1 e2)
    clear hf hbr e1 e2
    have hb2:=H1.out.2.2.2.trans (HB.out.mono z1)
    have HB2:=hid hb2
    have hbl:=HBL.out.below hb2
    clear hb2
    go_wp2_with fail
    refine Calls.mono (sGate k a b _ hbl rfl (by omega)) ?_
    rintro e w5 ⟨rfl,h5,t5⟩
    have HF:=hid (And.intro h5 ((Stay.of_below HB2.out).trans t5))
    clear h5 t5 hbl
    go_wp2
    go_returns
    exact ⟨by rw [HE.out.2]; rfl,by rw [HE.out.1]; exact HF.out.1,HF.out.2⟩
set_option linter.unusedVariables false in
set_option maxRecDepth 100000 in
set_option maxHeartbeats 3200000 in
theorem sValue {lo bp:Nat} {gs:List Gt} {O:Value} (a:Nat) (w:World) (h:Bld TS w lo bp gs O) (hs:gs.length≤10000) (ha:a < gs.length) :
  Calls Tryz.prog 175 #[.pointer (some ⟨bp,0,none⟩),.int .i64 (a:Int)] w fun e w'=>e=.returned (.int .i64 (valG gs (a:Int)))∧w=w':=by
 obtain ⟨A,c,hb,hl,ho⟩:=h
 obtain ⟨⟨k,x,y⟩,hg⟩:∃ s,gs[a]? = some s:=⟨_,List.getElem?_eq_getElem ha⟩
 obtain ⟨bg,og,rfl,hB,d0,d1,d2⟩:=gt_cells (Cells.of_own ho) (Below.refl _ _) hg
 have eg:gtAt gs (a:Int)=⟨k,x,y⟩:=by unfold gtAt; rw [Int.toNat_natCast,List.getD_eq_getElem?_getD,hg]; rfl
 have ha':(a:Int) < (gs.length:Int):=by omega
 have cell_x:=hb.cell
 have lt_x:=hb.lt
 clear ho hb hg
 by_cases h2:k=2
 ·subst h2
  have HV:=hid (show valG gs (a:Int)=x by unfold valG; rw [eg]; rfl)
  clear eg
  go_enter Tryz.func175,Tryz.ntmps175
  go_wp2
  go_ret
  exact ⟨by rw [HV.out]; rfl,rfl⟩
 ·have k2:(k == 2)=false:=by simpa using h2
  have HV:=hid (show valG gs (a:Int) = -1 by unfold valG; rw [eg,if_neg h2])
  clear eg h2
  go_enter Tryz.func175,Tryz.ntmps175
  go_wp2
  go_ret
  exact ⟨by rw [HV.out]; rfl,rfl⟩
set_option linter.unusedVariables false in
set_option maxRecDepth 100000 in
set_option maxHeartbeats 3200000 in
theorem sNot {lo bp:Nat} {gs:List Gt} {O:Value} (a:Nat) (w:World) (h:Bld TS w lo bp gs O) (hs:gs.length≤10000) (ha:a < gs.length) (hok:gatesB 0 gs=true) :
  Calls Tryz.prog 129 #[.pointer (some ⟨bp,0,none⟩),.int .i64 (a:Int)] w fun e w'=>e=.returned (.int .i64 (negG gs (a:Int)).2)∧Bld TS w' lo bp (negG gs (a:Int)).1 O∧Stay TS lo w w':=by
 have HB:=hid h
 have hwa:wireB gs.length (a:Int)=true:=wire_at ha
 have hgo:=gt_ok hok hwa
 obtain ⟨A,c,hb,hl,ho⟩:=h
 obtain ⟨⟨k,x,y⟩,hg⟩:∃ s,gs[a]? = some s:=⟨_,List.getElem?_eq_getElem ha⟩
 obtain ⟨bg,og,rfl,hB,d0,d1,d2⟩:=gt_cells (Cells.of_own ho) (Below.refl _ _) hg
 have eg:gtAt gs (a:Int)=⟨k,x,y⟩:=by unfold gtAt; rw [Int.toNat_natCast,List.getD_eq_getElem?_getD,hg]; rfl
 have ha':(a:Int) < (gs.length:Int):=by omega
 have cell_x:=hb.cell
 have lt_x:=hb.lt
 rw [eg] at hgo
 clear ho hb hg hwa
 have e2:∀ z:Int,srt 2 z 0=⟨2,z,0⟩:=fun z=>by unfold srt; rw [if_neg (by omega)]
 have e5:srt 5 (a:Int) 0=⟨5,(a:Int),0⟩:=by unfold srt; rw [if_neg (by omega)]
 have HE:=hid (And.intro e2 e5)
 clear e2 e5
 by_cases h2:k=2
 ·subst h2
  have hx:=gate_is2 hgo rfl
  have HV:=hid (show negG gs (a:Int)=put2 gs ⟨2,1 - x,0⟩ by unfold negG; rw [eg,if_pos rfl])
  have hw1:IntKind.i64.wrap (1 - x)=1 - x:=IntWalk.i64_in _ (by dsimp only at hx; omega)
  have hx2:0≤x∧x≤1:=by dsimp only at hx; omega
  clear eg hgo hx
  go_enter Tryz.func129,Tryz.ntmps129
  go_wp2_with fail
  refine Calls.mono (sGateP 2 (1 - x) 0 _ HB.out hs) ?_
  rintro e w5 ⟨rfl,h5,t5⟩
  have HF:=hid (And.intro h5 t5)
  clear h5 t5
  go_wp2
  go_returns
  rw [HV.out,←HE.out.1]
  exact ⟨rfl,HF.out.1,HF.out.2⟩
 ·have k2:(k == 2)=false:=by simpa using h2
  by_cases h5:k=5
  ·subst h5
   have HV:=hid (show negG gs (a:Int)=(gs,x) by unfold negG; rw [eg,if_neg h2,if_pos rfl])
   clear eg h2 hgo
   go_enter Tryz.func129,Tryz.ntmps129
   go_wp2
   go_returns
   rw [HV.out]
   exact ⟨rfl,HB.out,Stay.refl _ _ _⟩
  ·have k5:(k == 5)=false:=by simpa using h5
   have HV:=hid (show negG gs (a:Int)=put2 gs ⟨5,(a:Int),0⟩ by unfold negG; rw [eg,if_neg h2,if_neg h5])
   clear eg h2 h5 hgo
   go_enter Tryz.func129,Tryz.ntmps129
   go_wp2_with fail
   refine Calls.mono (sGateP 5 (a:Int) 0 _ HB.out hs) ?_
   rintro e w5 ⟨rfl,h5,t5⟩
   have HF:=hid (And.intro h5 t5)
   clear h5 t5
   go_wp2
   go_returns
   rw [HV.out,←HE.out.2]
   exact ⟨rfl,HF.out.1,HF.out.2⟩
set_option linter.unusedVariables false in
set_option maxRecDepth 100000 in
set_option maxHeartbeats 3200000 in
theorem sXor {lo bp:Nat} {gs:List Gt} {O:Value} (a b:Nat) (w:World) (h:Bld TS w lo bp gs O) (hs:gs.length≤10000) (ha:a < gs.length) (hb:b < gs.length) (hok:gatesB 0 gs=true) :
  Calls Tryz.prog 127 #[.pointer (some ⟨bp,0,none⟩),.int .i64 (a:Int),.int .i64 (b:Int)] w fun e w'=>e=.returned (.int .i64 (binG gs 3 (a:Int) (b:Int)).2)∧Bld TS w' lo bp (binG gs 3 (a:Int) (b:Int)).1 O∧Stay TS lo w w':=by
 have HB:=hid h
 have HZ:=hid (show srt 2 0 0=⟨2,0,0⟩ by unfold srt; rw [if_neg (by omega)])
 have HM:=hid (show srt 3 (a:Int) (b:Int)=⟨3,min (a:Int) (b:Int),max (a:Int) (b:Int)⟩ by
  unfold srt
  by_cases hab:(b:Int) < (a:Int)
  ·rw [if_pos ⟨by decide,hab⟩,show min (a:Int) (b:Int)=(b:Int) by omega,show max (a:Int) (b:Int)=(a:Int) by omega]
  ·rw [if_neg (by omega),show min (a:Int) (b:Int)=(a:Int) by omega,show max (a:Int) (b:Int)=(b:Int) by omega])
 clear h
 by_cases hab:a=b
 ·subst hab
  have HV:=hid (show binG gs 3 (a:Int) (a:Int)=put2 gs ⟨2,0,0⟩ by unfold binG; rw [if_pos rfl]; rfl)
  go_enter Tryz.func127,Tryz.ntmps127
  go_wp2_with fail
  refine Calls.mono (sGateP 2 0 0 _ HB.out hs) ?_
  rintro e w5 ⟨rfl,h5,t5⟩
  have HF:=hid (And.intro h5 t5)
  clear h5 t5
  go_wp2
  go_returns
  rw [HV.out,←HZ.out]
  exact ⟨rfl,HF.out.1,HF.out.2⟩
 ·have hne:((a:Int) == (b:Int))=false:=by rw [beq_eq_false_iff_ne]; omega
  have hneN:(a == b)=false:=by simpa using hab
  have hne2:¬ ((a:Int)=(b:Int)):=by omega
  have HQa:=hid (fun w h=>sValue (lo:=lo) (bp:=bp) (gs:=gs) (O:=O) a w h hs ha)
  have HQb:=hid (fun w h=>sValue (lo:=lo) (bp:=bp) (gs:=gs) (O:=O) b w h hs hb)
  obtain ⟨va,hva⟩:∃ v,valG gs (a:Int)=v:=⟨_,rfl⟩
  obtain ⟨vb,hvb⟩:∃ v,valG gs (b:Int)=v:=⟨_,rfl⟩
  rw [hva] at HQa
  rw [hvb] at HQb
  have hbin:=show binG gs 3 (a:Int) (b:Int)=halfG gs 3 (a:Int) (b:Int) (halfG gs 3 (b:Int) (a:Int) (put2 gs ⟨3,min (a:Int) (b:Int),max (a:Int) (b:Int)⟩)) by unfold binG; rw [if_neg hne2]
  unfold halfG at hbin
  rw [hva,hvb] at hbin
  clear hva hvb hab hne2
  by_cases a0:va=0
  ·subst a0
   have HV:=hid (show binG gs 3 (a:Int) (b:Int)=(gs,(b:Int)) by rw [hbin,if_pos (.inl ⟨rfl,rfl⟩)])
   clear hbin
   go_enter Tryz.func127,Tryz.ntmps127
   go_wp2_with fail
   refine Calls.mono (HQa.out _ HB.out) ?_
   rintro e w' ⟨rfl,rfl⟩
   go_wp2
   go_returns
   rw [HV.out]
   exact ⟨rfl,HB.out,Stay.refl _ _ _⟩
  have a0':(va == 0)=false:=by simpa using a0
  by_cases a1:va=1
  ·subst a1
   have HV:=hid (show binG gs 3 (a:Int) (b:Int)=negG gs (b:Int) by rw [hbin,if_neg (by omega),if_pos rfl])
   clear hbin
   go_enter Tryz.func127,Tryz.ntmps127
   go_wp2_with fail
   refine Calls.mono (HQa.out _ HB.out) ?_
   rintro e w' ⟨rfl,rfl⟩
   go_wp2_with fail
   refine Calls.mono (HQa.out _ HB.out) ?_
   rintro e w' ⟨rfl,rfl⟩
   go_wp2_with fail
   refine Calls.mono (sNot b _ HB.out hs hb hok) ?_
   rintro e w5 ⟨rfl,h5,t5⟩
   have HF:=hid (And.intro h5 t5)
   clear h5 t5
   go_wp2
   go_returns
   rw [HV.out]
   exact ⟨rfl,HF.out.1,HF.out.2⟩
  have a1':(va == 1)=false:=by simpa using a1
  by_cases b0:vb=0
  ·subst b0
   have HV:=hid (show binG gs 3 (a:Int) (b:Int)=(gs,(a:Int)) by rw [hbin,if_neg (by omega),if_neg (by omega),if_neg (by omega),if_pos (.inl ⟨rfl,rfl⟩)])
   clear hbin
   go_enter Tryz.func127,Tryz.ntmps127
   go_wp2_with fail
   refine Calls.mono (HQa.out _ HB.out) ?_
   rintro e w' ⟨rfl,rfl⟩
   go_wp2_with fail
   refine Calls.mono (HQa.out _ HB.out) ?_
   rintro e w' ⟨rfl,rfl⟩
   go_wp2_with fail
   refine Calls.mono (HQb.out _ HB.out) ?_
   rintro e w' ⟨rfl,rfl⟩
   go_wp2
   go_returns
   rw [HV.out]
   exact ⟨rfl,HB.out,Stay.refl _ _ _⟩
  have b0':(vb == 0)=false:=by simpa using b0
  by_cases b1:vb=1
  ·subst b1
   have HV:=hid (show binG gs 3 (a:Int) (b:Int)=negG gs (a:Int) by rw [hbin,if_neg (by omega),if_neg (by omega),if_neg (by omega),if_neg (by omega),if_pos rfl])
   clear hbin
   go_enter Tryz.func127,Tryz.ntmps127
   go_wp2_with fail
   refine Calls.mono (HQa.out _ HB.out) ?_
   rintro e w' ⟨rfl,rfl⟩
   go_wp2_with fail
   refine Calls.mono (HQa.out _ HB.out) ?_
   rintro e w' ⟨rfl,rfl⟩
   go_wp2_with fail
   refine Calls.mono (HQb.out _ HB.out) ?_
   rintro e w' ⟨rfl,rfl⟩
   go_wp2_with fail
   refine Calls.mono (HQb.out _ HB.out) ?_
   rintro e w' ⟨rfl,rfl⟩
   go_wp2_with fail
   refine Calls.mono (sNot a _ HB.out hs ha hok) ?_
   rintro e w5 ⟨rfl,h5,t5⟩
   have HF:=hid (And.intro h5 t5)
   clear h5 t5
   go_wp2
   go_returns
   rw [HV.out]
   exact ⟨rfl,HF.out.1,HF.out.2⟩
  have b1':(vb == 1)=false:=by simpa using b1
  have HV:=hid (show binG gs 3 (a:Int) (b:Int)=put2 gs ⟨3,min (a:Int) (b:Int),max (a:Int) (b:Int)⟩ by rw [hbin,if_neg (by omega),if_neg (by omega),if_neg (by omega),if_neg (by omega),if_neg (by omega),if_neg (by omega)])
  clear hbin
  go_enter Tryz.func127,Tryz.ntmps127
  clear a0 a1 b0 b1
  go_wp2_with fail
  refine Calls.mono (HQa.out _ HB.out) ?_
  rintro e w' ⟨rfl,rfl⟩
  go_wp2_with fail
  refine Calls.mono (HQa.out _ HB.out) ?_
  rintro e w' ⟨rfl,rfl⟩
  go_wp2_with fail
  refine Calls.mono (HQb.out _ HB.out) ?_
  rintro e w' ⟨rfl,rfl⟩
  go_wp2_with fail
  refine Calls.mono (HQb.out _ HB.out) ?_
  rintro e w' ⟨rfl,rfl⟩
  go_wp2_with fail
  refine Calls.mono (sGateP 3 (a:Int) (b:Int) _ HB.out hs) ?_
  rintro e w5 ⟨rfl,h5,t5⟩
  have HF:=hid (And.intro h5 t5)
  clear h5 t5
  go_wp2
  go_returns
  rw [HV.out,←HM.out]
  exact ⟨rfl,HF.out.1,HF.out.2⟩
set_option linter.unusedVariables false in
set_option maxRecDepth 100000 in
set_option maxHeartbeats 3200000 in
theorem sAnd {lo bp:Nat} {gs:List Gt} {O:Value} (a b:Nat) (w:World) (h:Bld TS w lo bp gs O) (hs:gs.length≤10000) (ha:a < gs.length) (hb:b < gs.length) (hok:gatesB 0 gs=true) :
  Calls Tryz.prog 128 #[.pointer (some ⟨bp,0,none⟩),.int .i64 (a:Int),.int .i64 (b:Int)] w fun e w'=>e=.returned (.int .i64 (binG gs 4 (a:Int) (b:Int)).2)∧Bld TS w' lo bp (binG gs 4 (a:Int) (b:Int)).1 O∧Stay TS lo w w':=by
 have HB:=hid h
 have HZ:=hid (show srt 2 0 0=⟨2,0,0⟩ by unfold srt; rw [if_neg (by omega)])
 have HM:=hid (show srt 4 (a:Int) (b:Int)=⟨4,min (a:Int) (b:Int),max (a:Int) (b:Int)⟩ by
  unfold srt
  by_cases hab:(b:Int) < (a:Int)
  ·rw [if_pos ⟨by decide,hab⟩,show min (a:Int) (b:Int)=(b:Int) by omega,show max (a:Int) (b:Int)=(a:Int) by omega]
  ·rw [if_neg (by omega),show min (a:Int) (b:Int)=(a:Int) by omega,show max (a:Int) (b:Int)=(b:Int) by omega])
 clear h
 by_cases hab:a=b
 ·subst hab
  have HV:=hid (show binG gs 4 (a:Int) (a:Int)=(gs,(a:Int)) by unfold binG; rw [if_pos rfl]; rfl)
  go_enter Tryz.func128,Tryz.ntmps128
  go_wp2
  go_returns
  rw [HV.out]
  exact ⟨rfl,HB.out,Stay.refl _ _ _⟩
 ·have hne:((a:Int) == (b:Int))=false:=by rw [beq_eq_false_iff_ne]; omega
  have hneN:(a == b)=false:=by simpa using hab
  have hne2:¬ ((a:Int)=(b:Int)):=by omega
  have HQa:=hid (fun w h=>sValue (lo:=lo) (bp:=bp) (gs:=gs) (O:=O) a w h hs ha)
  have HQb:=hid (fun w h=>sValue (lo:=lo) (bp:=bp) (gs:=gs) (O:=O) b w h hs hb)
  obtain ⟨va,hva⟩:∃ v,valG gs (a:Int)=v:=⟨_,rfl⟩
  obtain ⟨vb,hvb⟩:∃ v,valG gs (b:Int)=v:=⟨_,rfl⟩
  rw [hva] at HQa
  rw [hvb] at HQb
  have hbin:=show binG gs 4 (a:Int) (b:Int)=halfG gs 4 (a:Int) (b:Int) (halfG gs 4 (b:Int) (a:Int) (put2 gs ⟨4,min (a:Int) (b:Int),max (a:Int) (b:Int)⟩)) by unfold binG; rw [if_neg hne2]
  unfold halfG at hbin
  rw [hva,hvb] at hbin
  clear hva hvb hab hne2
  by_cases a0:va=0
  ·subst a0
   have HV:=hid (show binG gs 4 (a:Int) (b:Int)=put2 gs ⟨2,0,0⟩ by rw [hbin,if_neg (by omega),if_neg (by omega),if_pos rfl])
   clear hbin
   go_enter Tryz.func128,Tryz.ntmps128
   go_wp2_with fail
   refine Calls.mono (HQa.out _ HB.out) ?_
   rintro e w' ⟨rfl,rfl⟩
   go_wp2_with fail
   refine Calls.mono (sGateP 2 0 0 _ HB.out hs) ?_
   rintro e w5 ⟨rfl,h5,t5⟩
   have HF:=hid (And.intro h5 t5)
   clear h5 t5
   go_wp2
   go_returns
   rw [HV.out,←HZ.out]
   exact ⟨rfl,HF.out.1,HF.out.2⟩
  have a0':(va == 0)=false:=by simpa using a0
  by_cases a1:va=1
  ·subst a1
   have HV:=hid (show binG gs 4 (a:Int) (b:Int)=(gs,(b:Int)) by rw [hbin,if_pos (.inr ⟨rfl,rfl⟩)])
   clear hbin
   go_enter Tryz.func128,Tryz.ntmps128
   go_wp2_with fail
   refine Calls.mono (HQa.out _ HB.out) ?_
   rintro e w' ⟨rfl,rfl⟩
   go_wp2_with fail
   refine Calls.mono (HQa.out _ HB.out) ?_
   rintro e w' ⟨rfl,rfl⟩
   go_wp2
   go_returns
   rw [HV.out]
   exact ⟨rfl,HB.out,Stay.refl _ _ _⟩
  have a1':(va == 1)=false:=by simpa using a1
  by_cases b0:vb=0
  ·subst b0
   have HV:=hid (show binG gs 4 (a:Int) (b:Int)=put2 gs ⟨2,0,0⟩ by rw [hbin,if_neg (by omega),if_neg (by omega),if_neg (by omega),if_neg (by omega),if_neg (by omega),if_pos rfl])
   clear hbin
   go_enter Tryz.func128,Tryz.ntmps128
   go_wp2_with fail
   refine Calls.mono (HQa.out _ HB.out) ?_
   rintro e w' ⟨rfl,rfl⟩
   go_wp2_with fail
   refine Calls.mono (HQa.out _ HB.out) ?_
   rintro e w' ⟨rfl,rfl⟩
   go_wp2_with fail
   refine Calls.mono (HQb.out _ HB.out) ?_
   rintro e w' ⟨rfl,rfl⟩
   go_wp2_with fail
   refine Calls.mono (sGateP 2 0 0 _ HB.out hs) ?_
   rintro e w5 ⟨rfl,h5,t5⟩
   have HF:=hid (And.intro h5 t5)
   clear h5 t5
   go_wp2
   go_returns
   rw [HV.out,←HZ.out]
   exact ⟨rfl,HF.out.1,HF.out.2⟩
  have b0':(vb == 0)=false:=by simpa using b0
  by_cases b1:vb=1
  ·subst b1
   have HV:=hid (show binG gs 4 (a:Int) (b:Int)=(gs,(a:Int)) by rw [hbin,if_neg (by omega),if_neg (by omega),if_neg (by omega),if_pos (.inr ⟨rfl,rfl⟩)])
   clear hbin
   go_enter Tryz.func128,Tryz.ntmps128
   go_wp2_with fail
   refine Calls.mono (HQa.out _ HB.out) ?_
   rintro e w' ⟨rfl,rfl⟩
   go_wp2_with fail
   refine Calls.mono (HQa.out _ HB.out) ?_
   rintro e w' ⟨rfl,rfl⟩
   go_wp2_with fail
   refine Calls.mono (HQb.out _ HB.out) ?_
   rintro e w' ⟨rfl,rfl⟩
   go_wp2_with fail
   refine Calls.mono (HQb.out _ HB.out) ?_
   rintro e w' ⟨rfl,rfl⟩
   go_wp2
   go_returns
   rw [HV.out]
   exact ⟨rfl,HB.out,Stay.refl _ _ _⟩
  have b1':(vb == 1)=false:=by simpa using b1
  have HV:=hid (show binG gs 4 (a:Int) (b:Int)=put2 gs ⟨4,min (a:Int) (b:Int),max (a:Int) (b:Int)⟩ by rw [hbin,if_neg (by omega),if_neg (by omega),if_neg (by omega),if_neg (by omega),if_neg (by omega),if_neg (by omega)])
  clear hbin
  go_enter Tryz.func128,Tryz.ntmps128
  clear a0 a1 b0 b1
  go_wp2_with fail
  refine Calls.mono (HQa.out _ HB.out) ?_
  rintro e w' ⟨rfl,rfl⟩
  go_wp2_with fail
  refine Calls.mono (HQa.out _ HB.out) ?_
  rintro e w' ⟨rfl,rfl⟩
  go_wp2_with fail
  refine Calls.mono (HQb.out _ HB.out) ?_
  rintro e w' ⟨rfl,rfl⟩
  go_wp2_with fail
  refine Calls.mono (HQb.out _ HB.out) ?_
  rintro e w' ⟨rfl,rfl⟩
  go_wp2_with fail
  refine Calls.mono (sGateP 4 (a:Int) (b:Int) _ HB.out hs) ?_
  rintro e w5 ⟨rfl,h5,t5⟩
  have HF:=hid (And.intro h5 t5)
  clear h5 t5
  go_wp2
  go_returns
  rw [HV.out,←HM.out]
  exact ⟨rfl,HF.out.1,HF.out.2⟩
open Go.RowKit
def GivesK (w:World) (gs:List Gt) (os:List Int) (e:Ending) (w':World):Prop :=
 ∃ G cg O co,e=.returned (.agg #[.slice G gs.length cg,.slice O os.length co])∧w'.ownsRow w.heap.size TG 3 (.slice G gs.length cg) gs.length (ints (flatG gs)) ∧
  w'.ownsRow w.heap.size 3 1 (.slice O os.length co) os.length (ints os)∧Below w.heap.size w w'
theorem give_k {w wr w':World} {rb:Nat} {gs:List Gt} {os:List Int} {G O:Option Addr} {cg co:Nat} {cs':Array Value} (hr:Blk wr rb TS cs') (h1:wr.ownsRow w.heap.size TG 3 (.slice G gs.length cg) gs.length (ints (flatG gs))) (h2:wr.ownsRow w.heap.size 3 1 (.slice O os.length co) os.length (ints os))
  (hb:Below w.heap.size w wr) (hrb:w.heap.size≤rb) (ht:Touch [rb] wr w'):GivesK w gs os (.returned (.agg #[.slice G gs.length cg,.slice O os.length co])) w':=by
 have hm:∀ q,q≠rb→q ∉ [rb]:=fun q h=>by simp [h]
 exact ⟨G,cg,O,co,rfl,own_touch' ht h1 (fun q hq=>hm q (own_ne_obj h1 hr (by decide) q hq)),own_touch' ht h2 (fun q hq=>hm q (own_ne_obj h2 hr (by decide) q hq)),
  ht.below' hb (fun i hi=>by simp at hi; omega) hb.size⟩
structure SimI (w:World) (bc gt kt:Nat) (G:Option Addr) (n cg:Nat) (O:Option Addr) (m co:Nat) (out:List Gt) (tw:List Int) (A:Option Addr) (kO:Nat) (os:List Int) (wr:World):Prop where
 x:Blk wr w.heap.size TS #[.slice G n cg,.slice O m co]
 r:Blk wr (w.heap.size + 1) TS #[.slice none 0 0,.slice none 0 0]
 b:Bld TS wr bc bc out (.slice A os.length kO)
 t:RowI wr gt tw.length kt tw
 o:wr.ownsRow bc 3 1 (.slice A os.length kO) os.length (ints os)
 no:∀ q,(Value.slice A os.length kO).ownBlock=some q→q≠gt
 bl:Below w.heap.size w wr
 lg:w.heap.size≤gt
 lb:w.heap.size + 2≤bc
section
variable {w:World} {bc gt kt:Nat} {G:Option Addr} {n cg:Nat} {O:Option Addr} {m co:Nat} {out:List Gt} {tw:List Int} {A:Option Addr} {kO:Nat} {os:List Int} {wr w':World}
theorem SimI.below (h:SimI w bc gt kt G n cg O m co out tw A kO os wr) (hb:Below wr.heap.size wr w'):SimI w bc gt kt G n cg O m co out tw A kO os w' :=
 ⟨h.x.past hb,h.r.past hb,h.b.below hb,h.t.below hb,own_below h.o hb,h.no,h.bl.trans (hb.mono h.bl.size),h.lg,h.lb⟩
theorem SimI.stay {out':List Gt} (h:SimI w bc gt kt G n cg O m co out tw A kO os wr) (hb:Bld TS w' bc bc out' (.slice A os.length kO)) (t:Stay TS bc wr w'):SimI w bc gt kt G n cg O m co out' tw A kO os w':=by
 have hl:=h.lb
 have hxl:=h.x.lt
 have hrl:=h.r.lt
 have hbl:=h.b.len
 exact ⟨(t.block _ hxl (.inl (by omega))).trans h.x,(t.block _ hrl (.inl (by omega))).trans h.r,hb,t.row h.t (by decide) (by decide),t.own h.o (by decide) (by decide),h.no,h.bl.trans ((t.below (by omega)).mono (by omega)),h.lg,h.lb⟩
theorem SimI.note {x:Int} {g' k':Nat} (h:SimI w bc gt kt G n cg O m co out tw A kO os wr) (h1:RowI w' g' (tw.length + 1) k' (tw ++ [x])) (h2:wr.grownBy w' (some gt)) (h3:g'=gt∨wr.heap.size≤g'):SimI w bc g' k' G n cg O m co out (tw ++ [x]) A kO os w':=by
 have hl:(tw ++ [x]).length=tw.length + 1:=by simp
 have hsz:=h.bl.size
 refine ⟨h.x.grown h2 (fun e=>?_),h.r.grown h2 (fun e=>?_),h.b.grown h2 h.t (by decide),by rw [hl]; exact h1,gr_own h2 h.o (fun q p hq hp=>?_),fun q hq=>?_,below_apps h.bl h2 h.bl.size h.lg,?_,h.lb⟩
 ·injection e with e
  exact h.t.not_blk h.x (by decide) e.symm
 ·injection e with e
  exact h.t.not_blk h.r (by decide) e.symm
 ·injection hq with hq
  subst hq
  exact fun e=>h.no p hp e.symm
 ·rcases h3 with rfl | h3
  ·exact h.no q hq
  ·have:=(own_in h.o q hq).2
   omega
 ·have:=h.lg
  rcases h3 with rfl | h3 <;> omega
theorem SimI.app {Gx:Option Addr} {cx:Nat} {ws:Int} {g' k':Nat} {w5 X:World} (h:SimI w bc gt kt G n cg O m co out tw A kO os wr) (hx:Blk wr bc TS #[.slice Gx out.length cx,.slice A os.length kO]) (hg1:wr.ownsRow bc TG 3 (.slice Gx out.length cx) out.length (ints (flatG out)))
  (hX:Below wr.heap.size wr X) (h1:w5.ownsRow bc 3 1 (.slice (some ⟨g',0,none⟩) (os.length + 1) k') (os.length + 1) (ints (os ++ [ws]))) (h2:X.grownBy w5 (Value.slice A os.length kO).ownBlock) (h3:(Value.slice A os.length kO).ownBlock=some g'∨wr.heap.size≤g') :
  SimI w bc gt kt G n cg O m co out tw (some ⟨g',0,none⟩) k' (os ++ [ws]) (w5.setCell ⟨bc,1,none⟩ (.slice (some ⟨g',0,none⟩) (os.length + 1) k')):=by
 have hl:(os ++ [ws]).length=os.length + 1:=by simp
 have hsz:=h.bl.size
 have hlb:=h.lb
 have hlo:=own_in (own_below h.o hX)
 have h2:=below_grown hX h2
 have x5:=gr_blk h2 hx (own_ne_obj h.o hx (by decide))
 have p5:=gr_blk h2 h.x (own_ne_obj h.o h.x (by decide))
 have r5:=gr_blk h2 h.r (own_ne_obj h.o h.r (by decide))
 have g5:=gr_own h2 hg1 (fun q p hq hp=>own_ne h.o hg1 (by decide) q p hq hp)
 have t5:RowI w5 gt tw.length kt tw:=gr_own h2 h.t (fun q p hq hp=>by have:=own_here p hp; subst this; exact h.no q hq)
 have b5:Below w.heap.size w w5:=gr_below h2 h.bl hsz (fun q hq=>by have:=(own_in h.o q hq).1; omega)
 have ts:Touch [bc] w5 (w5.setCell ⟨bc,1,none⟩ (.slice (some ⟨g',0,none⟩) (os.length + 1) k')):=(Touch.refl _ _).set_ _ _ (by simp)
 have hm:∀ q,q≠bc→q ∉ [bc]:=fun q hq=>by simp [hq]
 have htl:=h.t.lt
 refine ⟨Blk.touch ts p5 (hm _ (by omega)),Blk.touch ts r5 (hm _ (by omega)),⟨Gx,cx,?_,Nat.le_refl _,own_touch' ts g5 (fun q hq=>hm q (own_ne_obj g5 x5 (by decide) q hq))⟩,Row.touch t5 ts (hm _ (t5.not_blk x5 (by decide))),?_,fun q hq=>?_,ts.below' b5 (fun i hi=>by simp at hi; omega) b5.size,h.lg,h.lb⟩
 ·rw [hl]
  exact x5.set_ 1 _
 ·rw [hl]
  exact own_touch' ts h1 (fun q hq=>hm q (own_ne_obj h1 x5 (by decide) q hq))
 ·have:=own_here q hq
  subst this
  rcases h3 with h3 | h3
  ·exact h.no _ h3
  ·omega
end
set_option linter.unusedVariables false in
set_option maxRecDepth 100000 in
set_option maxHeartbeats 6400000 in
theorem sSimplify (G O:Option Addr) (cg co:Nat) (gs:List Gt) (os:List Int) (w:World) (hg:Cells w w.heap.size G (ints (flatG gs))) (ho:Cells w w.heap.size O (ints os)) (hok:circB gs os=true) (hm:os.length≤1000000) :
  Calls Tryz.prog 65 #[.agg #[.slice G gs.length cg,.slice O os.length co]] w (GivesK w (simpC gs os).1 (simpC gs os).2):=by
 obtain ⟨hn6,hgv,hov⟩:=circ_parts hok
 have HG:=hid hg
 have HO:=hid ho
 have HK:=hid (fun w hg ho=>sCircOk G O cg co gs os w hg ho (by omega) hm)
 rw [hok] at HK
 have HT:=hid (simp_take hgv)
 have HA:=hid (simp_all hgv)
 have HV:=hid hgv
 have HOV:=hid (outs_wire hov)
 have HR:=hid (show simpC gs os=((simpTo gs).1,mapO (simpTo gs).2 os) by unfold simpC; rw [if_pos hok])
 clear hg ho hok hgv hov
 go_enter Tryz.func65,Tryz.ntmps65
 have b_0:=(Below.refl w.heap.size w)
 have s_0:=b_0.size
 go_upto_region 1 with fail
 refine wp_forget2 (w0:=w) (B:=w.heap.size) (b0:=w.heap.size) (t0:=40) (c0:=#[.slice G gs.length cg,.slice O os.length co]) (b1:=w.heap.size + 1) (t1:=40) (c1:=#[.slice none 0 0,.slice none 0 0]) ?_ ?_ ?_ ?_
 (focus exact blkcBy2)
 (focus exact blkcBy2)
 (focus (exact belBy))
 intro w1 x_1 r_1 hX1
 have sX1:=hX1.size
 have x_lt:=x_1.lt
 have r_lt:=r_1.lt
 have b_1:=b_0.trans (hX1.mono (by omega))
 clear b_0 hX1
 have cell_x:=x_1.cell
 have froz_x:=x_1.frozen
 have lt_x:=x_1.lt
 have cell_r:=r_1.cell
 have froz_r:=r_1.frozen
 have lt_r:=r_1.lt
 go_wp2_with fail
 refine calls_forget0 (W:=w1) ?_ ?_
 (focus (exact belBy))
 intro X2 hX2
 have sX2:=hX2.size
 refine (HK.out _ ((HG.out.below (b_1.trans (hX2.mono (by omega)))).more (by omega)) ((HO.out.below (b_1.trans (hX2.mono (by omega)))).more (by omega))).mono ?_
 rintro e w2 ⟨rfl,hb2⟩
 have s2:=hb2.size
 have hT2:=hX2.trans (hb2.mono sX2)
 have b_2:=b_1.trans (hT2.mono (by omega))
 have x_2:=Blk.past hT2 x_1
 have r_2:=Blk.past hT2 r_1
 clear x_1 r_1 b_1 cell_x froz_x lt_x cell_r froz_r lt_r hX2 hT2 hb2
 have cell_x:=x_2.cell
 have froz_x:=x_2.frozen
 have lt_x:=x_2.lt
 have cell_r:=r_2.cell
 have froz_r:=r_2.frozen
 have lt_r:=r_2.lt
 go_upto_region 4 with fail
 refine wp_forget1 (w0:=w2) (B:=w2.heap.size) (b0:=w2.heap.size) (t0:=40) (c0:=#[.slice none 0 0,.slice none 0 0]) ?_ ?_ ?_
 (focus exact blkcBy2)
 (focus (exact belBy))
 intro w3 y_3 hX3
 have sX3:=hX3.size
 have y_lt:=y_3.lt
 have b_3:=b_2.trans (hX3.mono (by omega))
 have x_3:=Blk.past hX3 x_2
 have r_3:=Blk.past hX3 r_2
 clear x_2 r_2 b_2 cell_x froz_x lt_x cell_r froz_r lt_r hX3
 have cell_x:=x_3.cell
 have froz_x:=x_3.frozen
 have lt_x:=x_3.lt
 have cell_r:=r_3.cell
 have froz_r:=r_3.frozen
 have lt_r:=r_3.lt
 have cell_y:=y_3.cell
 have froz_y:=y_3.frozen
 have lt_y:=y_3.lt
 have H3:=hid (And.intro x_3 (And.intro r_3 (And.intro y_3 b_3)))
 have z3:=b_3.size
 have r3:=x_3.lt
 have r4:=r_3.lt
 clear x_3 r_3 y_3 b_3 cell_x froz_x lt_x cell_r froz_r lt_r cell_y froz_y lt_y
 go_upto_region 5 with fail
 obtain ⟨w4,hw4⟩:∃ w4,w4=w3.alloc (.cells #[] 3):=⟨_,rfl⟩
 have hb:Below w3.heap.size w3 w4:=by rw [hw4]; exact (Below.refl _ _).alloc (Nat.le_refl _) _
 have ho4:RowI w4 w3.heap.size 0 0 []:=by rw [hw4]; exact Row.new #[] (Nat.zero_le _) rfl rfl
 rw [←hw4]
 have hy2:w.heap.size + 2≤w2.heap.size:=by omega
 have H4:=hid (show SimI w w2.heap.size w3.heap.size 0 G gs.length cg O os.length co [] [] none 0 [] w4 from
  ⟨H3.out.1.past hb,H3.out.2.1.past hb,⟨none,0,H3.out.2.2.1.past hb,Nat.le_refl _,own_none⟩,ho4,own_none,(fun q hq=>by cases hq),H3.out.2.2.2.trans (hb.mono z3),z3,hy2⟩)
 obtain ⟨bc,hbc⟩:∃ n,w2.heap.size=n:=⟨_,rfl⟩
 obtain ⟨g0,hg0⟩:∃ n,w3.heap.size=n:=⟨_,rfl⟩
 rw [hbc] at H4 hy2 ⊢
 rw [hg0] at H4 ⊢
 clear hb ho4 hw4 H3 hbc hg0
 go_wp2_with fail
 go_loopw [4,5,6,7] (fun o i _ _ wr=>∃ (j gt kt:Nat),j≤gs.length∧i=.int .i64 (j:Int)∧o=.slice (some ⟨gt,0,none⟩) (simpTo (gs.take j)).2.length kt∧SimI w bc gt kt G gs.length cg O os.length co (simpTo (gs.take j)).1 (simpTo (gs.take j)).2 none 0 [] wr) (fun _ i _ _ _=>gs.length - (intOf i).toNat)
 case atStart=>exact ⟨0,g0,0,Nat.zero_le _,rfl,rfl,H4.out⟩
 case round =>
  clear H4
  obtain ⟨j,gt,kt,hj,rfl,rfl,hI⟩:=hrel
  have hok:=HT.out j hj
  have cell_x:=hI.x.cell
  have froz_x:=hI.x.frozen
  have lt_x:=hI.x.lt
  by_cases hlt:j < gs.length
  ·obtain ⟨⟨k,a,b⟩,hx⟩:∃ s,gs[j]? = some s:=⟨_,List.getElem?_eq_getElem hlt⟩
   have hgv:=gatesB_at HV.out hx
   rw [Nat.zero_add] at hgv
   have hst:simpTo (gs.take (j + 1))=simpS (simpTo (gs.take j)) ⟨k,a,b⟩:=by
    obtain ⟨hl,e⟩:=List.getElem?_eq_some_iff.1 hx
    rw [List.take_succ_eq_append_getElem hl,simpTo_snoc,e]
   obtain ⟨bg,og,rfl,hBg,d0,d1,d2⟩:=gt_cells HG.out hI.bl hx
   have hbg:=hI.bl.size
   obtain ⟨st,hst0⟩:∃ c,simpTo (gs.take j)=c:=⟨_,rfl⟩
   rw [hst0] at hI hok hst ⊢
   have hlt':(j:Int) < (gs.length:Int):=by omega
   have hhi:=hok.hi
   have htl:=hok.tl
   have HI:=hid hI
   clear hI hx hst0
   rcases gate_kind hgv with hk | hk | hk | hk | hk
   ·obtain rfl:k=1:=hk
    have hab:=gate_is1 hgv rfl
    dsimp only at hab
    have hb0:=hab.2
    subst hb0
    have hsr:srt 1 a 0=⟨1,a,0⟩:=by unfold srt; rw [if_neg (by omega)]
    have hsp:simpP st.1 st.2 ⟨1,a,0⟩=put2 st.1 ⟨1,a,0⟩:=rfl
    have HC:=hid (show ∀ X (h:Bld TS X bc bc st.1 (.slice none 0 0)),Calls Tryz.prog 130 #[.pointer (some ⟨bc,0,none⟩),.int .i64 1,.int .i64 a,.int .i64 0] X fun e w'=>e=.returned (.int .i64 (simpP st.1 st.2 ⟨1,a,0⟩).2)∧Bld TS w' bc bc (simpP st.1 st.2 ⟨1,a,0⟩).1 (.slice none 0 0)∧Stay TS bc X w' from fun X h=>by
     have q:=sGateP 1 a 0 X h (by omega)
     rw [hsr] at q
     exact q)
    clear hsr
    have HS:=hid hst
    have HOK:=hid hok
    obtain ⟨P,hP⟩:∃ p,simpP st.1 st.2 ⟨1,a,0⟩=p:=⟨_,rfl⟩
    have hps:simpS st ⟨1,a,0⟩=(P.1,st.2 ++ [P.2]):=by rw [←hP]; rfl
    rw [hP] at HC
    rw [hps] at HS
    have hpw:=(simpP_ok hok hgv).w
    rw [hP] at hpw
    clear hst hok hsp hP hps hgv
    have b_30:=(Below.refl wr.heap.size wr)
    have s_30:=b_30.size
    go_upto_region 9 with fail
    refine wp_forget1 (w0:=wr) (B:=wr.heap.size) (b0:=wr.heap.size) (t0:=96) (c0:=#[.int .i64 1,.int .i64 a,.int .i64 0]) ?_ ?_ ?_
    (focus exact blkcBy2)
    (focus (exact belBy))
    intro w31 q_31 hX31
    have sX31:=hX31.size
    have q_lt:=q_31.lt
    have b_31:=b_30.trans (hX31.mono (by omega))
    clear b_30 hX31
    have cell_q:=q_31.cell
    have froz_q:=q_31.frozen
    have lt_q:=q_31.lt
    have hI:=HI.out.below b_31
    have z31:=b_31.size
    have HI3:=hid hI
    have hgl:=hI.t.lt
    clear hI b_31 q_31 HI
    go_wp2_with fail
    refine Calls.mono (HC.out _ HI3.out.b) ?_
    rintro e w5 ⟨rfl,k1,k2⟩
    have HW:=hid (SimI.stay HI3.out k1 k2)
    clear k1 k2
    have hT:=HW.out.t
    rw [htl] at hT
    have HT5:=hid hT
    clear hT cell_q froz_q lt_q HC
    go_wp2_with (at_builtin; refine app_int rfl _ _ rfl rfl (HT5.out.alloc _) [P.2] rfl rfl (top_cells _ [_] _) (by omega) ?_)
    intro g' k' w6 h1 h2 h3
    have h2:=grown_alloc h2
    have H6:=hid (HW.out.note (x:=P.2) (by rw [htl]; exact h1) h2 (by (try simp at h3); omega))
    have HL:=hid (show (st.2 ++ [P.2]).length=j + 1 by rw [List.length_append,htl]; rfl)
    clear h1 h2 h3 HT5 HW
    go_wp2
    go_roundw
    case rel=>exact ⟨j + 1,g',k',by omega,by go_num,by rw [HS.out]; exact congrArg (fun q=>Value.slice (some ⟨g',0,none⟩) q k') HL.out.symm,by rw [HS.out]; exact H6.out⟩
    case measure=>simp [intOf]; omega
   ·obtain rfl:k=2:=hk
    have hab:=gate_is2 hgv rfl
    dsimp only at hab
    have hb0:=hab.2
    subst hb0
    have hsr:srt 2 a 0=⟨2,a,0⟩:=by unfold srt; rw [if_neg (by omega)]
    have hsp:simpP st.1 st.2 ⟨2,a,0⟩=put2 st.1 ⟨2,a,0⟩:=rfl
    have HC:=hid (show ∀ X (h:Bld TS X bc bc st.1 (.slice none 0 0)),Calls Tryz.prog 130 #[.pointer (some ⟨bc,0,none⟩),.int .i64 2,.int .i64 a,.int .i64 0] X fun e w'=>e=.returned (.int .i64 (simpP st.1 st.2 ⟨2,a,0⟩).2)∧Bld TS w' bc bc (simpP st.1 st.2 ⟨2,a,0⟩).1 (.slice none 0 0)∧Stay TS bc X w' from fun X h=>by
     have q:=sGateP 2 a 0 X h (by omega)
     rw [hsr] at q
     exact q)
    clear hsr
    have HS:=hid hst
    have HOK:=hid hok
    obtain ⟨P,hP⟩:∃ p,simpP st.1 st.2 ⟨2,a,0⟩=p:=⟨_,rfl⟩
    have hps:simpS st ⟨2,a,0⟩=(P.1,st.2 ++ [P.2]):=by rw [←hP]; rfl
    rw [hP] at HC
    rw [hps] at HS
    have hpw:=(simpP_ok hok hgv).w
    rw [hP] at hpw
    clear hst hok hsp hP hps hgv
    have b_30:=(Below.refl wr.heap.size wr)
    have s_30:=b_30.size
    go_upto_region 9 with fail
    refine wp_forget1 (w0:=wr) (B:=wr.heap.size) (b0:=wr.heap.size) (t0:=96) (c0:=#[.int .i64 2,.int .i64 a,.int .i64 0]) ?_ ?_ ?_
    (focus exact blkcBy2)
    (focus (exact belBy))
    intro w31 q_31 hX31
    have sX31:=hX31.size
    have q_lt:=q_31.lt
    have b_31:=b_30.trans (hX31.mono (by omega))
    clear b_30 hX31
    have cell_q:=q_31.cell
    have froz_q:=q_31.frozen
    have lt_q:=q_31.lt
    have hI:=HI.out.below b_31
    have z31:=b_31.size
    have HI3:=hid hI
    have hgl:=hI.t.lt
    clear hI b_31 q_31 HI
    go_wp2_with fail
    refine Calls.mono (HC.out _ HI3.out.b) ?_
    rintro e w5 ⟨rfl,k1,k2⟩
    have HW:=hid (SimI.stay HI3.out k1 k2)
    clear k1 k2
    have hT:=HW.out.t
    rw [htl] at hT
    have HT5:=hid hT
    clear hT cell_q froz_q lt_q HC
    go_wp2_with (at_builtin; refine app_int rfl _ _ rfl rfl (HT5.out.alloc _) [P.2] rfl rfl (top_cells _ [_] _) (by omega) ?_)
    intro g' k' w6 h1 h2 h3
    have h2:=grown_alloc h2
    have H6:=hid (HW.out.note (x:=P.2) (by rw [htl]; exact h1) h2 (by (try simp at h3); omega))
    have HL:=hid (show (st.2 ++ [P.2]).length=j + 1 by rw [List.length_append,htl]; rfl)
    clear h1 h2 h3 HT5 HW
    go_wp2
    go_roundw
    case rel=>exact ⟨j + 1,g',k',by omega,by go_num,by rw [HS.out]; exact congrArg (fun q=>Value.slice (some ⟨g',0,none⟩) q k') HL.out.symm,by rw [HS.out]; exact H6.out⟩
    case measure=>simp [intOf]; omega
   ·obtain rfl:k=3:=hk
    have hab:=gate_is34 hgv (.inl rfl)
    dsimp only at hab
    obtain ⟨a,rfl⟩:=Int.eq_ofNat_of_zero_le hab.1.1
    obtain ⟨b,rfl⟩:=Int.eq_ofNat_of_zero_le hab.2.1
    have hA:=hok.at_ hab.1
    have hB:=hok.at_ hab.2
    rw [Int.toNat_natCast] at hA hB
    obtain ⟨hA1,hA2⟩:=hA
    obtain ⟨hB1,hB2⟩:=hB
    have hsp:simpP st.1 st.2 ⟨3,(a:Int),(b:Int)⟩=binG st.1 3 (st.2.getD a 0) (st.2.getD b 0):=rfl
    obtain ⟨ma,hma⟩:=Int.eq_ofNat_of_zero_le (wireB_iff.1 hA2).1
    obtain ⟨mb,hmb⟩:=Int.eq_ofNat_of_zero_le (wireB_iff.1 hB2).1
    have hma2:=(wireB_iff.1 hA2).2
    have hmb2:=(wireB_iff.1 hB2).2
    rw [hma] at hA1 hma2 hsp
    rw [hmb] at hB1 hmb2 hsp
    have HC:=hid (fun X (h:Bld TS X bc bc st.1 (.slice none 0 0))=>sXor (a:=ma) (b:=mb) X h (by omega) (by omega) (by omega) hok.g)
    rw [←hsp] at HC
    have HS:=hid hst
    have HOK:=hid hok
    obtain ⟨P,hP⟩:∃ p,simpP st.1 st.2 ⟨3,(a:Int),(b:Int)⟩=p:=⟨_,rfl⟩
    have hps:simpS st ⟨3,(a:Int),(b:Int)⟩=(P.1,st.2 ++ [P.2]):=by rw [←hP]; rfl
    rw [hP] at HC
    rw [hps] at HS
    have hpw:=(simpP_ok hok hgv).w
    rw [hP] at hpw
    clear hst hok hsp hP hps hgv hA2 hB2 hma hmb
    have b_30:=(Below.refl wr.heap.size wr)
    have s_30:=b_30.size
    go_upto_region 9 with fail
    refine wp_forget1 (w0:=wr) (B:=wr.heap.size) (b0:=wr.heap.size) (t0:=96) (c0:=#[.int .i64 3,.int .i64 (a:Int),.int .i64 (b:Int)]) ?_ ?_ ?_
    (focus exact blkcBy2)
    (focus (exact belBy))
    intro w31 q_31 hX31
    have sX31:=hX31.size
    have q_lt:=q_31.lt
    have b_31:=b_30.trans (hX31.mono (by omega))
    clear b_30 hX31
    have cell_q:=q_31.cell
    have froz_q:=q_31.frozen
    have lt_q:=q_31.lt
    have hI:=HI.out.below b_31
    have hQ:=q_31
    have z31:=b_31.size
    have HI3:=hid (And.intro hI hQ)
    clear hI hQ b_31 q_31 HI
    go_upto_region 13 with fail
    have e1:w31.cell? ⟨wr.heap.size,1,none⟩=some (.int .i64 (a:Int)):=cell_q 1
    have e2:w31.cell? ⟨wr.heap.size,2,none⟩=some (.int .i64 (b:Int)):=cell_q 2
    have ht:=HI3.out.1.t
    have f1:=ht.cell (ints_get hA1)
    have f2:=ht.cell (ints_get hB1)
    have hB1':=HI3.out.1.b
    have HCC:=HC.out
    have hti:3≠TS:=by decide
    have htg:3≠TG:=by decide
    have hgl:=ht.lt
    have hta:(a:Int) < (st.2.length:Int):=by omega
    have htb:(b:Int) < (st.2.length:Int):=by omega
    have ha0:(0:Int)≤(a:Int):=by omega
    have hb0:(0:Int)≤(b:Int):=by omega
    go_still_tail 10,(by kernel_rfl)
    go_wp2_with fail
    refine Calls.mono (HCC _ (Bld.heap hB1' rfl)) ?_
    rintro e w5 ⟨rfl,k1,k2⟩
    have HW:=hid (SimI.stay HI3.out.1 k1 ((Stay.refl TS bc w31).onto k2 rfl rfl rfl rfl))
    clear k1 k2
    have hT:=HW.out.t
    rw [htl] at hT
    have HT5:=hid hT
    clear hT cell_q froz_q lt_q HCC hB1' ht f1 f2 e1 e2 HC
    go_wp2_with (at_builtin; refine app_int rfl _ _ rfl rfl (HT5.out.alloc _) [P.2] rfl rfl (top_cells _ [_] _) (by omega) ?_)
    intro g' k' w6 h1 h2 h3
    have h2:=grown_alloc h2
    have H6:=hid (HW.out.note (x:=P.2) (by rw [htl]; exact h1) h2 (by (try simp at h3); omega))
    have HL:=hid (show (st.2 ++ [P.2]).length=j + 1 by rw [List.length_append,htl]; rfl)
    clear h1 h2 h3 HT5 HW
    go_wp2
    go_roundw
    case rel=>exact ⟨j + 1,g',k',by omega,by go_num,by rw [HS.out]; exact congrArg (fun q=>Value.slice (some ⟨g',0,none⟩) q k') HL.out.symm,by rw [HS.out]; exact H6.out⟩
    case measure=>simp [intOf]; omega
   ·obtain rfl:k=4:=hk
    have hab:=gate_is34 hgv (.inr rfl)
    dsimp only at hab
    obtain ⟨a,rfl⟩:=Int.eq_ofNat_of_zero_le hab.1.1
    obtain ⟨b,rfl⟩:=Int.eq_ofNat_of_zero_le hab.2.1
    have hA:=hok.at_ hab.1
    have hB:=hok.at_ hab.2
    rw [Int.toNat_natCast] at hA hB
    obtain ⟨hA1,hA2⟩:=hA
    obtain ⟨hB1,hB2⟩:=hB
    have hsp:simpP st.1 st.2 ⟨4,(a:Int),(b:Int)⟩=binG st.1 4 (st.2.getD a 0) (st.2.getD b 0):=rfl
    obtain ⟨ma,hma⟩:=Int.eq_ofNat_of_zero_le (wireB_iff.1 hA2).1
    obtain ⟨mb,hmb⟩:=Int.eq_ofNat_of_zero_le (wireB_iff.1 hB2).1
    have hma2:=(wireB_iff.1 hA2).2
    have hmb2:=(wireB_iff.1 hB2).2
    rw [hma] at hA1 hma2 hsp
    rw [hmb] at hB1 hmb2 hsp
    have HC:=hid (fun X (h:Bld TS X bc bc st.1 (.slice none 0 0))=>sAnd (a:=ma) (b:=mb) X h (by omega) (by omega) (by omega) hok.g)
    rw [←hsp] at HC
    have HS:=hid hst
    have HOK:=hid hok
    obtain ⟨P,hP⟩:∃ p,simpP st.1 st.2 ⟨4,(a:Int),(b:Int)⟩=p:=⟨_,rfl⟩
    have hps:simpS st ⟨4,(a:Int),(b:Int)⟩=(P.1,st.2 ++ [P.2]):=by rw [←hP]; rfl
    rw [hP] at HC
    rw [hps] at HS
    have hpw:=(simpP_ok hok hgv).w
    rw [hP] at hpw
    clear hst hok hsp hP hps hgv hA2 hB2 hma hmb
    have b_30:=(Below.refl wr.heap.size wr)
    have s_30:=b_30.size
    go_upto_region 9 with fail
    refine wp_forget1 (w0:=wr) (B:=wr.heap.size) (b0:=wr.heap.size) (t0:=96) (c0:=#[.int .i64 4,.int .i64 (a:Int),.int .i64 (b:Int)]) ?_ ?_ ?_
    (focus exact blkcBy2)
    (focus (exact belBy))
    intro w31 q_31 hX31
    have sX31:=hX31.size
    have q_lt:=q_31.lt
    have b_31:=b_30.trans (hX31.mono (by omega))
    clear b_30 hX31
    have cell_q:=q_31.cell
    have froz_q:=q_31.frozen
    have lt_q:=q_31.lt
    have hI:=HI.out.below b_31
    have hQ:=q_31
    have z31:=b_31.size
    have HI3:=hid (And.intro hI hQ)
    clear hI hQ b_31 q_31 HI
    go_upto_region 15 with fail
    have e1:w31.cell? ⟨wr.heap.size,1,none⟩=some (.int .i64 (a:Int)):=cell_q 1
    have e2:w31.cell? ⟨wr.heap.size,2,none⟩=some (.int .i64 (b:Int)):=cell_q 2
    have ht:=HI3.out.1.t
    have f1:=ht.cell (ints_get hA1)
    have f2:=ht.cell (ints_get hB1)
    have hB1':=HI3.out.1.b
    have HCC:=HC.out
    have hti:3≠TS:=by decide
    have htg:3≠TG:=by decide
    have hgl:=ht.lt
    have hta:(a:Int) < (st.2.length:Int):=by omega
    have htb:(b:Int) < (st.2.length:Int):=by omega
    have ha0:(0:Int)≤(a:Int):=by omega
    have hb0:(0:Int)≤(b:Int):=by omega
    go_still_tail 10,(by kernel_rfl)
    go_wp2_with fail
    refine Calls.mono (HCC _ (Bld.heap hB1' rfl)) ?_
    rintro e w5 ⟨rfl,k1,k2⟩
    have HW:=hid (SimI.stay HI3.out.1 k1 ((Stay.refl TS bc w31).onto k2 rfl rfl rfl rfl))
    clear k1 k2
    have hT:=HW.out.t
    rw [htl] at hT
    have HT5:=hid hT
    clear hT cell_q froz_q lt_q HCC hB1' ht f1 f2 e1 e2 HC
    go_wp2_with (at_builtin; refine app_int rfl _ _ rfl rfl (HT5.out.alloc _) [P.2] rfl rfl (top_cells _ [_] _) (by omega) ?_)
    intro g' k' w6 h1 h2 h3
    have h2:=grown_alloc h2
    have H6:=hid (HW.out.note (x:=P.2) (by rw [htl]; exact h1) h2 (by (try simp at h3); omega))
    have HL:=hid (show (st.2 ++ [P.2]).length=j + 1 by rw [List.length_append,htl]; rfl)
    clear h1 h2 h3 HT5 HW
    go_wp2
    go_roundw
    case rel=>exact ⟨j + 1,g',k',by omega,by go_num,by rw [HS.out]; exact congrArg (fun q=>Value.slice (some ⟨g',0,none⟩) q k') HL.out.symm,by rw [HS.out]; exact H6.out⟩
    case measure=>simp [intOf]; omega
   ·obtain rfl:k=5:=hk
    have hab:=gate_is5 hgv rfl
    dsimp only at hab
    obtain ⟨hab,hb0⟩:=hab
    subst hb0
    obtain ⟨a,rfl⟩:=Int.eq_ofNat_of_zero_le hab.1
    have hA:=hok.at_ hab
    rw [Int.toNat_natCast] at hA
    obtain ⟨hA1,hA2⟩:=hA
    have hsp:simpP st.1 st.2 ⟨5,(a:Int),0⟩=negG st.1 (st.2.getD a 0):=rfl
    obtain ⟨ma,hma⟩:=Int.eq_ofNat_of_zero_le (wireB_iff.1 hA2).1
    have hma2:=(wireB_iff.1 hA2).2
    rw [hma] at hA1 hma2 hsp
    have hta:(a:Int) < (st.2.length:Int):=by omega
    have ha0:(0:Int)≤(a:Int):=by omega
    have HC:=hid (fun X (h:Bld TS X bc bc st.1 (.slice none 0 0))=>sNot (a:=ma) X h (by omega) (by omega) hok.g)
    rw [←hsp] at HC
    have HS:=hid hst
    have HOK:=hid hok
    obtain ⟨P,hP⟩:∃ p,simpP st.1 st.2 ⟨5,(a:Int),0⟩=p:=⟨_,rfl⟩
    have hps:simpS st ⟨5,(a:Int),0⟩=(P.1,st.2 ++ [P.2]):=by rw [←hP]; rfl
    rw [hP] at HC
    rw [hps] at HS
    have hpw:=(simpP_ok hok hgv).w
    rw [hP] at hpw
    clear hst hok hsp hP hps hgv hA2 hma
    have b_30:=(Below.refl wr.heap.size wr)
    have s_30:=b_30.size
    go_upto_region 9 with fail
    refine wp_forget1 (w0:=wr) (B:=wr.heap.size) (b0:=wr.heap.size) (t0:=96) (c0:=#[.int .i64 5,.int .i64 (a:Int),.int .i64 0]) ?_ ?_ ?_
    (focus exact blkcBy2)
    (focus (exact belBy))
    intro w31 q_31 hX31
    have sX31:=hX31.size
    have q_lt:=q_31.lt
    have b_31:=b_30.trans (hX31.mono (by omega))
    clear b_30 hX31
    have cell_q:=q_31.cell
    have froz_q:=q_31.frozen
    have lt_q:=q_31.lt
    have hI:=HI.out.below b_31
    have z31:=b_31.size
    have HI3:=hid hI
    have hgl:=hI.t.lt
    have f1:=hI.t.cell (ints_get hA1)
    clear hI b_31 q_31 HI
    go_wp2_with fail
    refine Calls.mono (HC.out _ HI3.out.b) ?_
    rintro e w5 ⟨rfl,k1,k2⟩
    have HW:=hid (SimI.stay HI3.out k1 k2)
    clear k1 k2
    have hT:=HW.out.t
    rw [htl] at hT
    have HT5:=hid hT
    clear hT f1 cell_q froz_q lt_q HC
    go_wp2_with (at_builtin; refine app_int rfl _ _ rfl rfl (HT5.out.alloc _) [P.2] rfl rfl (top_cells _ [_] _) (by omega) ?_)
    intro g' k' w6 h1 h2 h3
    have h2:=grown_alloc h2
    have H6:=hid (HW.out.note (x:=P.2) (by rw [htl]; exact h1) h2 (by (try simp at h3); omega))
    have HL:=hid (show (st.2 ++ [P.2]).length=j + 1 by rw [List.length_append,htl]; rfl)
    clear h1 h2 h3 HT5 HW
    go_wp2
    go_roundw
    case rel=>exact ⟨j + 1,g',k',by omega,by go_num,by rw [HS.out]; exact congrArg (fun q=>Value.slice (some ⟨g',0,none⟩) q k') HL.out.symm,by rw [HS.out]; exact H6.out⟩
    case measure=>simp [intOf]; omega
  ·obtain rfl:j=gs.length:=by omega
   have hcu:simpTo (gs.take gs.length)=simpTo gs:=by rw [List.take_length]
   rw [hcu] at hI ⊢
   obtain ⟨st,hst⟩:∃ c,simpTo gs=c:=⟨_,rfl⟩
   rw [hst] at hI HA HR ⊢
   have HI:=hid hI
   clear hI hok hcu hst HT HV cell_x froz_x lt_x
   have cell_x:=HI.out.x.cell
   have lt_x:=HI.out.x.lt
   go_wp2_with fail
   clear cell_x lt_x
   go_loopw [8] (fun i wr=>∃ (m:Nat) (A:Option Addr) (kO:Nat),m≤os.length∧i=.int .i64 (m:Int)∧SimI w bc gt kt G gs.length cg O os.length co st.1 st.2 A kO (mapO st.2 (os.take m)) wr) (fun i _=>os.length - (intOf i).toNat)
   case atStart=>exact ⟨0,none,0,Nat.zero_le _,rfl,HI.out⟩
   case round =>
    clear HI
    obtain ⟨m,A,kO,hm2,rfl,hI⟩:=hrel
    have cell_x:=hI.x.cell
    have lt_x:=hI.x.lt
    by_cases hlt:m < os.length
    ·obtain ⟨x,hx⟩:∃ s,os[m]? = some s:=⟨_,List.getElem?_eq_getElem hlt⟩
     have hw:=wireB_iff.1 (HOV.out x (List.mem_of_getElem? hx))
     obtain ⟨mx,rfl⟩:=Int.eq_ofNat_of_zero_le hw.1
     obtain ⟨hA1,hA2⟩:=HA.out.at_ hw
     rw [Int.toNat_natCast] at hA1
     obtain ⟨v,hv⟩:∃ v,st.2.getD mx 0=v:=⟨_,rfl⟩
     have hmo:mapO st.2 (os.take (m + 1))=mapO st.2 (os.take m) ++ [v]:=by
      obtain ⟨hl,e⟩:=List.getElem?_eq_some_iff.1 hx
      rw [List.take_succ_eq_append_getElem hl,e]
      simp only [mapO,List.map_append,List.map_cons,List.map_nil,Int.toNat_natCast,hv]
     have hml:(mapO st.2 (os.take m)).length=m:=by simp [mapO]; omega
     rw [hv] at hA1
     obtain ⟨bo,oo,rfl,hBo,e0⟩:=int_cells HO.out hI.bl hx
     have hbo:=hI.bl.size
     obtain ⟨outs,houts⟩:∃ c,mapO st.2 (os.take m)=c:=⟨_,rfl⟩
     rw [houts] at hI hmo hml
     have hml2:outs.length≤1000000:=by omega
     have hlt':(m:Int) < (os.length:Int):=by omega
     have htl:=HA.out.tl
     have hmx:(mx:Int) < (st.2.length:Int):=by omega
     have m00:(0:Int)≤(m:Int):=by omega
     have mx0:(0:Int)≤(mx:Int):=by omega
     have f0:=hI.t.cell (ints_get hA1)
     have hgl:=hI.t.lt
     obtain ⟨Gx,cgx,hbk,_,hg1⟩:=hI.b
     have cell_y:=hbk.cell
     have froz_y:=hbk.frozen
     have lt_y:=hbk.lt
     have hlb:=hI.lb
     have hou:=hI.o
     have hne1:=hid (own_ne_obj hou hbk (by decide))
     have HI:=hid (And.intro hI (And.intro hbk hg1))
     have HMO:=hid (And.intro hmo hml)
     have hb1:outs.length + 1≤1000000 + 1:=by omega
     have hb1:outs.length + 1≤1000000:=by omega
     clear hI hx hmo hml houts hw hA1 hA2 hv htl hg1
     go_upto_region 22 with fail
     go_region_law (refine step_int_any (base:=bc) (L:=outs) rfl (.tmp 83) (.tmp 92) rfl (v:=Value.slice A outs.length kO) rfl ?_ ?_ [v] rfl rfl ?_ (by decide) hb1 ?_; (focus (exact ownBy)); (focus (first | omega | (simp; omega))); (focus (exact top_cells _ [_] _)); intro g' c' w5 ho5 hg5 hl5; have kx5:=gr_blk hg5 (b:=bc) (t:=TS) (cs:=#[.slice Gx st.1.length cgx,.slice A outs.length kO]) (by exact blkcBy2) hne1.out; have cell_5:=kx5.cell; have froz_5:=kx5.frozen; have lt_5:=kx5.lt)
     all_goals
      have h3':(Value.slice A outs.length kO).ownBlock=some g'∨wr.heap.size≤g':=by
       rcases hl5 with h | h
       ·exact .inl h
       ·refine .inr ?_
        (try simp at h)
        omega
      have HF:=hid (SimI.app HI.out.1 HI.out.2.1 HI.out.2.2 (by exact belBy) ho5 hg5 h3')
      clear ho5 hg5 hl5 kx5 cell_5 froz_5 lt_5 hou hbk h3' f0 e0 cell_x lt_x cell_y froz_y lt_y
      go_wp2
      go_roundw
      case rel=>exact ⟨m + 1,some ⟨g',0,none⟩,c',by omega,by go_num,by rw [HMO.out.1]; exact HF.out⟩
      case measure=>simp [intOf]; omega
    ·obtain rfl:m=os.length:=by omega
     have hcu:mapO st.2 (os.take os.length)=mapO st.2 os:=by rw [List.take_length]
     rw [hcu] at hI
     obtain ⟨Gx,cgx,hbk,_,hg1⟩:=hI.b
     have cell_y:=hbk.cell
     have froz_y:=hbk.frozen
     have lt_y:=hbk.lt
     have cell_r:=hI.r.cell
     have froz_r:=hI.r.frozen
     have lt_r:=hI.r.lt
     have hlb:=hI.lb
     have hne:bc≠w.heap.size + 1:=by omega
     have hne2:w.heap.size + 1≠bc:=by omega
     have HI:=hid (And.intro hI (And.intro hbk hg1))
     have hmo:(mapO st.2 os).length=os.length:=by simp [mapO]
     clear hI hbk hg1 hcu hmo
     go_wp2
     ((try simp only [Exit.inBlock,Exit.then]); apply bodyPost_ret0; focus ((try simp only [results,Tryz.results65]); (try go_simp); (try rfl)))
     rw [HR.out]
     exact give_k HI.out.1.r (own_weak HI.out.2.2 (by omega)) (own_weak HI.out.1.o (by omega)) HI.out.1.bl (by omega) (by exact tchBy)
open Go.RowKit
theorem infoB:(Tryz.prog.info? 4).map (fun i=>(i.zero,i.size,i.bytes))=some (some (.bool false),1,1):=by kernel_rfl
def bools (L:List Bool):List Value:=L.map Value.bool
theorem bools_get {L:List Bool} {k:Nat} {v:Bool} (h:L[k]? = some v):(bools L)[k]? = some (.bool v):=by simp [bools,h]
abbrev RowB (w:World) (g n c:Nat) (L:List Bool):Prop:=Row w g 4 1 n c (bools L)
theorem getD_some {L:List Bool} {i:Nat} (h:i < L.length):L[i]? = some (L.getD i false):=by
 rw [List.getD_eq_getElem?_getD,List.getElem?_eq_getElem h]
 rfl
section
variable {w w':World} {g n c:Nat} {L:List Bool}
theorem RowB.set_ (h:RowB w g n c L) (j:Nat) (v:Bool):RowB (w.setCell ⟨g,j,none⟩ (.bool v)) g n c (L.set j v)∧w.grownBy (w.setCell ⟨g,j,none⟩ (.bool v)) (some g):=by
 have r0:=World.ownsRow.stored (show w.ownsRow 0 4 1 (.slice (some ⟨g,0,none⟩) n c) n (bools L) from h) j (.bool v)
 refine ⟨?_,r0.2⟩
 have e:bools (L.set j v)=(bools L).set j (.bool v):=by unfold bools; rw [List.map_set]
 show Row _ _ _ _ _ _ _
 rw [e]
 exact r0.1
theorem RowI.set_ {xs:List Int} (h:RowI w g n c xs) (j:Nat) (v:Int):RowI (w.setCell ⟨g,j,none⟩ (.int .i64 v)) g n c (xs.set j v)∧w.grownBy (w.setCell ⟨g,j,none⟩ (.int .i64 v)) (some g):=by
 have r0:=World.ownsRow.stored (show w.ownsRow 0 3 1 (.slice (some ⟨g,0,none⟩) n c) n (ints xs) from h) j (.int .i64 v)
 refine ⟨?_,r0.2⟩
 have e:ints (xs.set j v)=(ints xs).set j (.int .i64 v):=by unfold ints; rw [List.map_set]
 show Row _ _ _ _ _ _ _
 rw [e]
 exact r0.1
end
theorem make_bools (n:Nat):bools (List.replicate n false)=(madeCells #[Value.bool false] n).toList:=by
 rw [toList_madeCells_one]
 simp [bools]
theorem make_ints (n:Nat):ints (List.replicate n 0)=(madeCells #[Value.int IntKind.i64 0] n).toList:=by
 rw [toList_madeCells_one]
 simp [ints]
theorem live0_at {n:Nat} {os:List Int} {m:Nat} {x:Int} (h:os[m]? = some x):live0 n (os.take (m + 1))=(live0 n (os.take m)).set x.toNat true:=by
 obtain ⟨hl,e⟩:=List.getElem?_eq_some_iff.1 h
 rw [List.take_succ_eq_append_getElem hl,e]
 simp [live0]
theorem wp_mark {P:Program} {c:Code} {Q:Exit→Act→World→Prop} {a:Act} {w:World} {g n cap:Nat} {L:List Bool} (h:RowB w g n cap L) (j:Nat) (v:Bool) (k:∀ W,RowB W g n cap (L.set j v)→w.grownBy W (some g)→Code.wp P c Q a W):Code.wp P c Q a (w.setCell ⟨g,j,none⟩ (.bool v)) :=
 k _ (h.set_ j v).1 (h.set_ j v).2
theorem sTwo (k:Int) (w:World):Calls Tryz.prog 126 #[.int .i64 k] w fun e w'=>e=.returned (.bool (k == 3 || k == 4))∧w=w':=by
 cases h3:(k == 3) <;> cases h4:(k == 4)
 all_goals
  go_enter Tryz.func126,Tryz.ntmps126
  go_wp2
  go_ret
  exact ⟨rfl,rfl⟩
set_option linter.unusedVariables false in
set_option maxRecDepth 100000 in
set_option maxHeartbeats 3200000 in
theorem sLive (G O:Option Addr) (cg co:Nat) (gs:List Gt) (os:List Int) (w:World) (hg:Cells w w.heap.size G (ints (flatG gs))) (ho:Cells w w.heap.size O (ints os)) (hok:circB gs os=true) (hm:os.length≤1000000) :
  Calls Tryz.prog 125 #[.agg #[.slice G gs.length cg,.slice O os.length co]] w fun e w'=>∃ g,e=.returned (.slice (some ⟨g,0,none⟩) gs.length gs.length)∧w.heap.size≤g∧RowB w' g gs.length gs.length (liveG gs os)∧Below w.heap.size w w':=by
 obtain ⟨hn6,hgv,hov⟩:=circ_parts hok
 have HG:=hid hg
 have HO:=hid ho
 have HV:=hid hgv
 have HOV:=hid (outs_wire hov)
 clear hg ho hok hgv hov
 go_enter Tryz.func125,Tryz.ntmps125
 have b_0:=(Below.refl w.heap.size w)
 have s_0:=b_0.size
 go_upto_region 1 with fail
 refine wp_forget1 (w0:=w) (B:=w.heap.size) (b0:=w.heap.size) (t0:=40) (c0:=#[.slice G gs.length cg,.slice O os.length co]) ?_ ?_ ?_
 (focus exact blkcBy)
 (focus (exact belBy))
 intro w1 x_1 hX1
 have sX1:=hX1.size
 have x_lt:=x_1.lt
 have b_1:=b_0.trans (hX1.mono (by omega))
 clear b_0 hX1
 have cell_x:=x_1.cell
 have froz_x:=x_1.frozen
 have lt_x:=x_1.lt
 have H1:=hid (And.intro x_1 b_1)
 have z1:=b_1.size
 clear x_1 b_1
 obtain ⟨i0,hi,hz0,hz1,hz2⟩:=info_parts infoB
 go_wp2_with (at_make; refine wpList_make_full _ rfl _ _ 147 rfl w1.heap.size 4 i0 (.bool false) 1 Tryz.underlying147 hi hz0 hz1 _ _ _ _ gs.length rfl rfl rfl rfl (by rw [hz2]; omega) (by unfold maxLen; omega) (Nat.le_refl _) ?_)
 intro w2 hown hgr
 have hb2:Below w1.heap.size w1 w2:=(Below.refl _ _).grown hgr (Nat.le_refl _) (fun k hk=>by cases hk)
 have hr2:RowB w2 w1.heap.size gs.length gs.length (live0 gs.length []):=by
  show Row _ _ _ _ _ _ _
  rw [show live0 gs.length []=List.replicate gs.length false from rfl,make_bools]
  exact own_weak hown (Nat.zero_le _)
 have z2:=hb2.size
 have H2:=hid (And.intro (H1.out.1.past hb2) (And.intro hr2 (H1.out.2.trans (hb2.mono z1))))
 have hgw:w.heap.size < w1.heap.size:=lt_x
 obtain ⟨gb,hgb⟩:∃ n,w1.heap.size=n:=⟨_,rfl⟩
 rw [hgb] at H2 z1 z2 hgw ⊢
 clear hi hz0 hz1 hz2 hown hgr hb2 hr2 H1 hgb cell_x froz_x lt_x
 go_wp2_with fail
 go_loopw [4] (fun i wr=>∃ m:Nat,m≤os.length∧i=.int .i64 (m:Int)∧Blk wr w.heap.size TS #[.slice G gs.length cg,.slice O os.length co]∧RowB wr gb gs.length gs.length (live0 gs.length (os.take m))∧Below w.heap.size w wr) (fun i _=>os.length - (intOf i).toNat)
 case atStart=>exact ⟨0,Nat.zero_le _,rfl,H2.out.1,H2.out.2.1,H2.out.2.2⟩
 case round =>
  clear H2
  obtain ⟨m,hm2,rfl,hx,hr,hb⟩:=hrel
  have cell_x:=hx.cell
  have lt_x:=hx.lt
  by_cases hlt:m < os.length
  ·obtain ⟨x,hxo⟩:∃ s,os[m]? = some s:=⟨_,List.getElem?_eq_getElem hlt⟩
   have hw:=wireB_iff.1 (HOV.out x (List.mem_of_getElem? hxo))
   obtain ⟨mx,rfl⟩:=Int.eq_ofNat_of_zero_le hw.1
   have hst:=live0_at (n:=gs.length) hxo
   rw [Int.toNat_natCast] at hst
   obtain ⟨bo,oo,rfl,hBo,e0⟩:=int_cells HO.out hb hxo
   have hbo:=hb.size
   obtain ⟨L,hL⟩:∃ L,live0 gs.length (os.take m)=L:=⟨_,rfl⟩
   have hll:L.length=gs.length:=by rw [←hL,live0_length]
   rw [hL] at hr hst
   have hlt':(m:Int) < (os.length:Int):=by omega
   have hmx:(mx:Int) < (gs.length:Int):=by omega
   have f0:=hr.cell (bools_get (getD_some (L:=L) (i:=mx) (by omega)))
   have f1:=World.ownsRow.frozenAt hr mx
   have hgl:=hr.lt
   obtain ⟨s1,s2⟩:=hr.set_ mx true
   have hne:gb≠w.heap.size:=by omega
   have HN:=hid (And.intro (hx.grown s2 (fun e=>by injection e with e; omega)) (And.intro s1 (And.intro (below_apps hb s2 hb.size z1) hst)))
   clear hx hr hb hxo hw hst hL s1 s2 hll
   go_wp2
   go_roundw
   case rel=>exact ⟨m + 1,by omega,by go_num,HN.out.1,by rw [HN.out.2.2.2]; exact HN.out.2.1,HN.out.2.2.1⟩
   case measure=>simp [intOf]; omega
  ·obtain rfl:m=os.length:=by omega
   rw [List.take_length] at hr
   have H3:=hid (And.intro hx (And.intro hr hb))
   clear hx hr hb
   have hw1:IntKind.i64.wrap ((gs.length:Int) - 1)=(gs.length:Int) - 1:=IntWalk.i64_in _ (by omega)
   go_wp2_with fail
   go_loopw [5,6] (fun i _ wr=>∃ (k:Nat) (x:Int) (L:List Bool),k≤gs.length∧x=(k:Int) - 1∧i=.int .i64 x∧L.length=gs.length∧liveTo gs L k=liveG gs os∧Blk wr w.heap.size TS #[.slice G gs.length cg,.slice O os.length co]∧RowB wr gb gs.length gs.length L∧Below w.heap.size w wr) (fun i _ _=>(intOf i + 1).toNat)
   case atStart=>exact ⟨gs.length,(gs.length:Int) - 1,_,Nat.le_refl _,rfl,rfl,live0_length _ _,rfl,H3.out.1,H3.out.2.1,H3.out.2.2⟩
   case round =>
    clear H3
    obtain ⟨k,x,L,hk,hxk,rfl,hll,hlt2,hx,hr,hb⟩:=hrel
    have cell_x:=hx.cell
    have lt_x:=hx.lt
    cases k with
    | zero =>
     obtain rfl:x = -1:=by omega
     have HE:=hid hlt2
     have H4:=hid (And.intro hr hb)
     clear hlt2 hxk hr hb hx
     go_wp2
     go_returns
     exact ⟨gb,rfl,by omega,by rw [←HE.out]; exact H4.out.1,H4.out.2⟩
    | succ k =>
     obtain rfl:x=(k:Int):=by omega
     clear hxk
     obtain ⟨⟨q,a,b⟩,hg⟩:∃ s,gs[k]? = some s:=⟨_,List.getElem?_eq_getElem (by omega)⟩
     have hgv:=gatesB_at HV.out hg
     rw [Nat.zero_add] at hgv
     have egd:gs.getD k ⟨0,0,0⟩=⟨q,a,b⟩:=by rw [List.getD_eq_getElem?_getD,hg]; rfl
     obtain ⟨bg,og,rfl,hBg,d0,d1,d2⟩:=gt_cells HG.out hb hg
     have hbg:=hb.size
     have hlt':(k:Int) < (gs.length:Int):=by omega
     have k00:(0:Int)≤(k:Int):=by omega
     have hwk:IntKind.i64.wrap ((k:Int) - 1)=(k:Int) - 1:=IntWalk.i64_in _ (by omega)
     rw [liveTo] at hlt2
     have hlt2:=hlt2.symm
     have hgl0:=hr.lt
     have HI:=hid hr
     clear hr
     have b_30:=(Below.refl wr.heap.size wr)
     have s_30:=b_30.size
     go_upto_region 10 with fail
     refine wp_forget1 (w0:=wr) (B:=wr.heap.size) (b0:=wr.heap.size) (t0:=96) (c0:=#[.int .i64 q,.int .i64 a,.int .i64 b]) ?_ ?_ ?_
     (focus exact blkcBy)
     (focus (exact belBy))
     intro w31 q_31 hX31
     have sX31:=hX31.size
     have q_lt:=q_31.lt
     have b_31:=b_30.trans (hX31.mono (by omega))
     clear b_30 hX31
     have cell_q:=q_31.cell
     have froz_q:=q_31.frozen
     have lt_q:=q_31.lt
     have hr31:=HI.out.below b_31
     have HX31:=hid (And.intro (hx.past b_31) (hb.trans (b_31.mono hbg)))
     have HQ31:=hid q_31
     have z31:=b_31.size
     have hg31:=hr31.lt
     obtain ⟨lv,hlv⟩:∃ v,L.getD k false=v:=⟨_,rfl⟩
     have ek:w31.cell? ⟨gb,k,none⟩=some (.bool lv):=hr31.cell (bools_get (by rw [getD_some (L:=L) (i:=k) (by omega),hlv]))
     have fk:=World.ownsRow.frozenAt hr31 k
     clear b_31 q_31 hx hb HI hg cell_x
     cases lv
     ·have hst:liveS gs L k=L:=by unfold liveS; rw [if_neg (by rw [hlv]; simp)]
      have HLT:=hid (hlt2.trans (by rw [hst]):liveG gs os=liveTo gs L k)
      have HR31:=hid hr31
      clear hst hlt2 hr31 hgv
      go_wp2_with (go_at_call 126; refine (sTwo _ _).mono ?_; rintro e w' ⟨rfl,rfl⟩)
      go_roundw
      case rel=>exact ⟨k,(k:Int) - 1,L,by omega,rfl,by go_num,hll,HLT.out.symm,HX31.out.1,HR31.out,HX31.out.2⟩
      case measure=>first | (simp [intOf]; done) | (simp [intOf]; omega)
     ·have hls:liveS gs L k=liveP ⟨q,a,b⟩ L:=by unfold liveS; rw [if_pos hlv,egd]
      rcases gate_kind hgv with hk2 | hk2 | hk2 | hk2 | hk2
      ·obtain rfl:q=1:=hk2
       have hst:liveS gs L k=L:=by rw [hls]; rfl
       have HLT:=hid (hlt2.trans (by rw [hst]):liveG gs os=liveTo gs (L) k)
       clear hst hls hlt2 hgv
       have HR31:=hid hr31
       clear hr31
       go_wp2_with (go_at_call 126; refine (sTwo _ _).mono ?_; rintro e w' ⟨rfl,rfl⟩)
       go_roundw
       case rel=>exact ⟨k,(k:Int) - 1,L,by omega,rfl,by go_num,hll,HLT.out.symm,HX31.out.1,HR31.out,HX31.out.2⟩
       case measure=>first | (simp [intOf]; done) | (simp [intOf]; omega)
      ·obtain rfl:q=2:=hk2
       have hst:liveS gs L k=L:=by rw [hls]; rfl
       have HLT:=hid (hlt2.trans (by rw [hst]):liveG gs os=liveTo gs (L) k)
       clear hst hls hlt2 hgv
       have HR31:=hid hr31
       clear hr31
       go_wp2_with (go_at_call 126; refine (sTwo _ _).mono ?_; rintro e w' ⟨rfl,rfl⟩)
       go_roundw
       case rel=>exact ⟨k,(k:Int) - 1,L,by omega,rfl,by go_num,hll,HLT.out.symm,HX31.out.1,HR31.out,HX31.out.2⟩
       case measure=>first | (simp [intOf]; done) | (simp [intOf]; omega)
      ·obtain rfl:q=3:=hk2
       have hab:=gate_is34 hgv (.inl rfl)
       dsimp only at hab
       obtain ⟨a,rfl⟩:=Int.eq_ofNat_of_zero_le hab.1.1
       obtain ⟨b,rfl⟩:=Int.eq_ofNat_of_zero_le hab.2.1
       have hst:liveS gs L k=(L.set a true).set b true:=by rw [hls]; rfl
       have HLT:=hid (hlt2.trans (by rw [hst]):liveG gs os=liveTo gs ((L.set a true).set b true) k)
       clear hst hls hlt2 hgv
       have fa:=hr31.cell (bools_get (getD_some (L:=L) (i:=a) (by omega)))
       have za:=World.ownsRow.frozenAt hr31 a
       have ha':(a:Int) < (gs.length:Int):=by omega
       have HR31:=hid hr31
       clear hr31
       go_upto_region 12 with (go_at_call 126; refine (sTwo _ _).mono ?_; rintro e w' ⟨rfl,rfl⟩)
       clear fa za ek fk
       refine wp_mark HR31.out a true ?_
       intro w32 r32 g32
       have hx32:=HX31.out.1.grown g32 (fun e=>by injection e with e; omega)
       have hb32:=below_apps HX31.out.2 g32 (by omega) (by omega)
       have hq32:=HQ31.out.grown g32 (fun e=>by injection e with e; omega)
       have cell_q2:=hq32.cell
       have lt_q2:=hq32.lt
       have ek2:w32.cell? ⟨gb,k,none⟩=some (.bool true):=r32.cell (bools_get (by rw [getD_some (L:=L.set a true) (i:=k) (by rw [List.length_set]; omega),set_other (by omega),hlv]))
       have hg32:=r32.lt
       have fb:=r32.cell (bools_get (getD_some (L:=L.set a true) (i:=b) (by rw [List.length_set]; omega)))
       have zb:=World.ownsRow.frozenAt r32 b
       have hb':(b:Int) < (gs.length:Int):=by omega
       obtain ⟨s1,s2⟩:=r32.set_ b true
       have HN:=hid (And.intro (hx32.grown s2 (fun e=>by injection e with e; omega)) (And.intro s1 (below_apps hb32 s2 hb32.size (by omega))))
       clear s1 s2 r32 g32 hx32 hb32 hq32 cell_q cell_x
       go_wp2_with (go_at_call 126; refine (sTwo _ _).mono ?_; rintro e w' ⟨rfl,rfl⟩)
       go_roundw
       case rel=>exact ⟨k,(k:Int) - 1,(L.set a true).set b true,by omega,rfl,by go_num,by simp [hll],HLT.out.symm,HN.out.1,HN.out.2.1,HN.out.2.2⟩
       case measure=>first | (simp [intOf]; done) | (simp [intOf]; omega)
      ·obtain rfl:q=4:=hk2
       have hab:=gate_is34 hgv (.inr rfl)
       dsimp only at hab
       obtain ⟨a,rfl⟩:=Int.eq_ofNat_of_zero_le hab.1.1
       obtain ⟨b,rfl⟩:=Int.eq_ofNat_of_zero_le hab.2.1
       have hst:liveS gs L k=(L.set a true).set b true:=by rw [hls]; rfl
       have HLT:=hid (hlt2.trans (by rw [hst]):liveG gs os=liveTo gs ((L.set a true).set b true) k)
       clear hst hls hlt2 hgv
       have fa:=hr31.cell (bools_get (getD_some (L:=L) (i:=a) (by omega)))
       have za:=World.ownsRow.frozenAt hr31 a
       have ha':(a:Int) < (gs.length:Int):=by omega
       have HR31:=hid hr31
       clear hr31
       go_upto_region 12 with (go_at_call 126; refine (sTwo _ _).mono ?_; rintro e w' ⟨rfl,rfl⟩)
       clear fa za ek fk
       refine wp_mark HR31.out a true ?_
       intro w32 r32 g32
       have hx32:=HX31.out.1.grown g32 (fun e=>by injection e with e; omega)
       have hb32:=below_apps HX31.out.2 g32 (by omega) (by omega)
       have hq32:=HQ31.out.grown g32 (fun e=>by injection e with e; omega)
       have cell_q2:=hq32.cell
       have lt_q2:=hq32.lt
       have ek2:w32.cell? ⟨gb,k,none⟩=some (.bool true):=r32.cell (bools_get (by rw [getD_some (L:=L.set a true) (i:=k) (by rw [List.length_set]; omega),set_other (by omega),hlv]))
       have hg32:=r32.lt
       have fb:=r32.cell (bools_get (getD_some (L:=L.set a true) (i:=b) (by rw [List.length_set]; omega)))
       have zb:=World.ownsRow.frozenAt r32 b
       have hb':(b:Int) < (gs.length:Int):=by omega
       obtain ⟨s1,s2⟩:=r32.set_ b true
       have HN:=hid (And.intro (hx32.grown s2 (fun e=>by injection e with e; omega)) (And.intro s1 (below_apps hb32 s2 hb32.size (by omega))))
       clear s1 s2 r32 g32 hx32 hb32 hq32 cell_q cell_x
       go_wp2_with (go_at_call 126; refine (sTwo _ _).mono ?_; rintro e w' ⟨rfl,rfl⟩)
       go_roundw
       case rel=>exact ⟨k,(k:Int) - 1,(L.set a true).set b true,by omega,rfl,by go_num,by simp [hll],HLT.out.symm,HN.out.1,HN.out.2.1,HN.out.2.2⟩
       case measure=>first | (simp [intOf]; done) | (simp [intOf]; omega)
      ·obtain rfl:q=5:=hk2
       have hab:=gate_is5 hgv rfl
       dsimp only at hab
       obtain ⟨hab,hb0⟩:=hab
       subst hb0
       obtain ⟨a,rfl⟩:=Int.eq_ofNat_of_zero_le hab.1
       have hst:liveS gs L k=L.set a true:=by rw [hls]; rfl
       have HLT:=hid (hlt2.trans (by rw [hst]):liveG gs os=liveTo gs (L.set a true) k)
       clear hst hls hlt2 hgv
       have fa:=hr31.cell (bools_get (getD_some (L:=L) (i:=a) (by omega)))
       have za:=World.ownsRow.frozenAt hr31 a
       have ha':(a:Int) < (gs.length:Int):=by omega
       have HR31:=hid hr31
       clear hr31
       go_upto_region 12 with (go_at_call 126; refine (sTwo _ _).mono ?_; rintro e w' ⟨rfl,rfl⟩)
       clear fa za ek fk
       refine wp_mark HR31.out a true ?_
       intro w32 r32 g32
       have hx32:=HX31.out.1.grown g32 (fun e=>by injection e with e; omega)
       have hb32:=below_apps HX31.out.2 g32 (by omega) (by omega)
       have hq32:=HQ31.out.grown g32 (fun e=>by injection e with e; omega)
       have cell_q2:=hq32.cell
       have lt_q2:=hq32.lt
       have ek2:w32.cell? ⟨gb,k,none⟩=some (.bool true):=r32.cell (bools_get (by rw [getD_some (L:=L.set a true) (i:=k) (by rw [List.length_set]; omega),set_other (by omega),hlv]))
       have hg32:=r32.lt
       have HN:=hid (And.intro hx32 (And.intro r32 hb32))
       clear r32 g32 hx32 hb32 hq32 cell_q cell_x
       go_wp2_with (go_at_call 126; refine (sTwo _ _).mono ?_; rintro e w' ⟨rfl,rfl⟩)
       go_roundw
       case rel=>exact ⟨k,(k:Int) - 1,L.set a true,by omega,rfl,by go_num,by simp [hll],HLT.out.symm,HN.out.1,HN.out.2.1,HN.out.2.2⟩
       case measure=>first | (simp [intOf]; done) | (simp [intOf]; omega)
open Go.RowKit
theorem wp_noteI {P:Program} {c:Code} {Q:Exit→Act→World→Prop} {a:Act} {w:World} {g n cap:Nat} {L:List Int} (h:RowI w g n cap L) (j:Nat) (v:Int) (k:∀ W,RowI W g n cap (L.set j v)→w.grownBy W (some g)→Code.wp P c Q a W):Code.wp P c Q a (w.setCell ⟨g,j,none⟩ (.int .i64 v)) :=
 k _ (RowI.set_ h j v).1 (RowI.set_ h j v).2
theorem SimI.set_ {w:World} {bc gt kt:Nat} {G:Option Addr} {n cg:Nat} {O:Option Addr} {m co:Nat} {out:List Gt} {tw:List Int} {A:Option Addr} {kO:Nat} {os:List Int} {wr w':World} {j:Nat} {v:Int} (h:SimI w bc gt kt G n cg O m co out tw A kO os wr) (h1:RowI w' gt tw.length kt (tw.set j v)) (h2:wr.grownBy w' (some gt)):SimI w bc gt kt G n cg O m co out (tw.set j v) A kO os w':=by
 refine ⟨h.x.grown h2 (fun e=>?_),h.r.grown h2 (fun e=>?_),h.b.grown h2 h.t (by decide),by rw [List.length_set]; exact h1,gr_own h2 h.o (fun q p hq hp=>?_),h.no,below_apps h.bl h2 h.bl.size h.lg,h.lg,h.lb⟩
 ·injection e with e
  exact h.t.not_blk h.x (by decide) e.symm
 ·injection e with e
  exact h.t.not_blk h.r (by decide) e.symm
 ·injection hq with hq
  subst hq
  exact fun e=>h.no p hp e.symm
theorem row_apart {w:World} {g g' e e' s s' n n' c c':Nat} {xs ys:List Value} (h:Row w g e s n c xs) (h':Row w g' e' s' n' c' ys) (hne:e≠e'):g≠g':=by
 rintro rfl
 obtain ⟨_,c1,k1,_⟩:=h.parts
 obtain ⟨_,c2,k2,_⟩:=h'.parts
 rw [k1] at k2
 injection k2 with k2
 injection k2 with _ k2 _
 exact hne k2
set_option linter.unusedVariables false in
set_option maxRecDepth 100000 in
set_option maxHeartbeats 6400000 in
theorem sPrune (G O:Option Addr) (cg co:Nat) (gs:List Gt) (os:List Int) (w:World) (hg:Cells w w.heap.size G (ints (flatG gs))) (ho:Cells w w.heap.size O (ints os)) (hok:circB gs os=true) (hm:os.length≤1000000) :
  Calls Tryz.prog 64 #[.agg #[.slice G gs.length cg,.slice O os.length co]] w (GivesK w (prunC gs os).1 (prunC gs os).2):=by
 obtain ⟨hn6,hgv,hov⟩:=circ_parts hok
 have HG:=hid hg
 have HO:=hid ho
 have HK:=hid (fun w hg ho=>sCircOk G O cg co gs os w hg ho (by omega) hm)
 have HLV:=hid (fun w hg ho=>sLive G O cg co gs os w hg ho hok hm)
 rw [hok] at HK
 obtain ⟨LV,hLV⟩:∃ l,liveG gs os=l:=⟨_,rfl⟩
 have hll:LV.length=gs.length:=by rw [←hLV,liveG_length]
 have HT:=hid (prTo_ok (L:=LV) hgv (by rw [←hLV]; exact liveG_fed hgv os))
 have HV:=hid hgv
 have HOV:=hid (outs_wire hov)
 have HR:=hid (show prunC gs os=((prTo gs LV gs.length).1,mapO (prTo gs LV gs.length).2 os) by unfold prunC; rw [if_pos hok,hLV])
 rw [hLV] at HLV
 have HLL:=hid hll
 clear hg ho hok hgv hov hLV hll
 go_enter Tryz.func64,Tryz.ntmps64
 have b_0:=(Below.refl w.heap.size w)
 have s_0:=b_0.size
 go_upto_region 1 with fail
 refine wp_forget2 (w0:=w) (B:=w.heap.size) (b0:=w.heap.size) (t0:=40) (c0:=#[.slice G gs.length cg,.slice O os.length co]) (b1:=w.heap.size + 1) (t1:=40) (c1:=#[.slice none 0 0,.slice none 0 0]) ?_ ?_ ?_ ?_
 (focus exact blkcBy2)
 (focus exact blkcBy2)
 (focus (exact belBy))
 intro w1 x_1 r_1 hX1
 have sX1:=hX1.size
 have x_lt:=x_1.lt
 have r_lt:=r_1.lt
 have b_1:=b_0.trans (hX1.mono (by omega))
 clear b_0 hX1
 have cell_x:=x_1.cell
 have froz_x:=x_1.frozen
 have lt_x:=x_1.lt
 have cell_r:=r_1.cell
 have froz_r:=r_1.frozen
 have lt_r:=r_1.lt
 go_wp2_with fail
 refine calls_forget0 (W:=w1) ?_ ?_
 (focus (exact belBy))
 intro X2 hX2
 have sX2:=hX2.size
 refine (HK.out _ ((HG.out.below (b_1.trans (hX2.mono (by omega)))).more (by omega)) ((HO.out.below (b_1.trans (hX2.mono (by omega)))).more (by omega))).mono ?_
 rintro e w2 ⟨rfl,hb2⟩
 have s2:=hb2.size
 have hT2:=hX2.trans (hb2.mono sX2)
 have b_2:=b_1.trans (hT2.mono (by omega))
 have x_2:=Blk.past hT2 x_1
 have r_2:=Blk.past hT2 r_1
 clear x_1 r_1 b_1 cell_x froz_x lt_x cell_r froz_r lt_r hX2 hT2 hb2
 have cell_x:=x_2.cell
 have froz_x:=x_2.frozen
 have lt_x:=x_2.lt
 have cell_r:=r_2.cell
 have froz_r:=r_2.frozen
 have lt_r:=r_2.lt
 have H2:=hid (And.intro x_2 (And.intro r_2 b_2))
 have z2:=b_2.size
 have hxl:=x_2.lt
 have hrl:=r_2.lt
 clear x_2 r_2 b_2 cell_r froz_r lt_r froz_x
 go_wp2_with fail
 refine Calls.mono (HLV.out _ ((HG.out.below H2.out.2.2).more (by omega)) ((HO.out.below H2.out.2.2).more (by omega))) ?_
 rintro e w3 ⟨gb,rfl,hgb,hlr,hb⟩
 have z3:=hb.size
 have hx3:=H2.out.1.past hb
 have H3:=hid (And.intro hx3 (And.intro (H2.out.2.1.past hb) (And.intro hlr (H2.out.2.2.trans (hb.mono z2)))))
 have cell_x3:=hx3.cell
 have lt_x3:=hx3.lt
 clear hb hlr H2 hx3 cell_x
 obtain ⟨i0,hi,hz0,hz1,hz2⟩:=info_parts infoI
 go_wp2_with (at_make; refine wpList_make_full _ rfl _ _ 30 rfl w3.heap.size 3 i0 (.int .i64 0) 1 Tryz.underlying30 hi hz0 hz1 _ _ _ _ gs.length rfl rfl rfl rfl (by rw [hz2]; omega) (by unfold maxLen; omega) (Nat.le_refl _) ?_)
 intro w4 hown hgr
 have hb4:Below w3.heap.size w3 w4:=(Below.refl _ _).grown hgr (Nat.le_refl _) (fun k hk=>by cases hk)
 have hr4:RowI w4 w3.heap.size gs.length gs.length (List.replicate gs.length 0):=by
  show Row _ _ _ _ _ _ _
  rw [make_ints]
  exact own_weak hown (Nat.zero_le _)
 have z4:=hb4.size
 have hx4:=H3.out.1.past hb4
 have H4:=hid (And.intro hx4 (And.intro (H3.out.2.1.past hb4) (And.intro (H3.out.2.2.1.below hb4) (And.intro (H3.out.2.2.2.trans (hb4.mono (by omega))) hr4))))
 have hgt:=hr4.lt
 clear hi hz0 hz1 hz2 hown hgr hb4 hr4 H3 hx4 cell_x3 lt_x3
 have b_4:=(Below.refl w4.heap.size w4)
 have s_4:=b_4.size
 go_upto_region 6 with fail
 refine wp_forget1 (w0:=w4) (B:=w4.heap.size) (b0:=w4.heap.size) (t0:=40) (c0:=#[.slice none 0 0,.slice none 0 0]) ?_ ?_ ?_
 (focus exact blkcBy2)
 (focus (exact belBy))
 intro w5 y_5 hX5
 have sX5:=hX5.size
 have y_lt:=y_5.lt
 have b_5:=b_4.trans (hX5.mono (by omega))
 clear b_4 hX5
 have cell_y:=y_5.cell
 have froz_y:=y_5.frozen
 have lt_y:=y_5.lt
 have hy2:w.heap.size + 2≤w4.heap.size:=by omega
 have H5:=hid (And.intro (show SimI w w4.heap.size w3.heap.size gs.length G gs.length cg O os.length co [] (List.replicate gs.length 0) none 0 [] w5 from
  ⟨H4.out.1.past b_5,H4.out.2.1.past b_5,⟨none,0,y_5,Nat.le_refl _,own_none⟩,(by rw [List.length_replicate]; exact H4.out.2.2.2.2.below b_5),own_none,(fun q hq=>by cases hq),H4.out.2.2.2.1.trans (b_5.mono (by omega)),by omega,hy2⟩) (H4.out.2.2.1.below b_5))
 obtain ⟨bc,hbc⟩:∃ n,w4.heap.size=n:=⟨_,rfl⟩
 obtain ⟨gt,hgt0⟩:∃ n,w3.heap.size=n:=⟨_,rfl⟩
 rw [hbc] at H5 hy2 ⊢
 rw [hgt0] at H5 ⊢
 clear b_5 y_5 H4 hbc hgt0 cell_y froz_y lt_y hgt
 go_wp2_with fail
 go_loopw [6,7] (fun i _ wr=>∃ j:Nat,j≤gs.length∧i=.int .i64 (j:Int)∧SimI w bc gt gs.length G gs.length cg O os.length co (prTo gs LV j).1 (prTo gs LV j).2 none 0 [] wr∧RowB wr gb gs.length gs.length LV) (fun i _ _=>gs.length - (intOf i).toNat)
 case atStart=>exact ⟨0,Nat.zero_le _,rfl,H5.out.1,H5.out.2⟩
 case round =>
  clear H5
  obtain ⟨j,hj,rfl,hI,hl⟩:=hrel
  have hok:=HT.out j hj
  have cell_x:=hI.x.cell
  have froz_x:=hI.x.frozen
  have lt_x:=hI.x.lt
  by_cases hlt:j < gs.length
  ·obtain ⟨⟨q,a,b⟩,hx⟩:∃ s,gs[j]? = some s:=⟨_,List.getElem?_eq_getElem hlt⟩
   have hgv:=gatesB_at HV.out hx
   rw [Nat.zero_add] at hgv
   have egd:gs.getD j ⟨0,0,0⟩=⟨q,a,b⟩:=by rw [List.getD_eq_getElem?_getD,hx]; rfl
   obtain ⟨bg,og,rfl,hBg,d0,d1,d2⟩:=gt_cells HG.out hI.bl hx
   have hbg:=hI.bl.size
   have hst:prTo gs LV (j + 1)=prS gs LV (prTo gs LV j) j:=rfl
   obtain ⟨st,hst0⟩:∃ c,prTo gs LV j=c:=⟨_,rfl⟩
   rw [hst0] at hI hok hst
   have hlt':(j:Int) < (gs.length:Int):=by omega
   have hhi:=hok.hi
   have htl:=hok.tl
   have hgbl:=hl.lt
   have hgtl:=hI.t.lt
   obtain ⟨lv,hlv⟩:∃ v,LV.getD j false=v:=⟨_,rfl⟩
   have ek:wr.cell? ⟨gb,j,none⟩=some (.bool lv):=hl.cell (bools_get (by rw [getD_some (L:=LV) (i:=j) (by have:=HLL.out; omega),hlv]))
   clear hx hst0 hok
   cases lv
   ·have hls:prS gs LV st j=st:=by unfold prS; rw [if_neg (by rw [hlv]; simp)]
    have HS:=hid (hst.trans hls)
    have HI:=hid (And.intro hI hl)
    clear hst hls hgv hlv egd hI hl
    have b_30:=(Below.refl wr.heap.size wr)
    have s_30:=b_30.size
    go_upto_region 10 with fail
    refine wp_forget1 (w0:=wr) (B:=wr.heap.size) (b0:=wr.heap.size) (t0:=96) (c0:=#[.int .i64 q,.int .i64 a,.int .i64 b]) ?_ ?_ ?_
    (focus exact blkcBy2)
    (focus (exact belBy))
    intro w31 q_31 hX31
    have sX31:=hX31.size
    have q_lt:=q_31.lt
    have b_31:=b_30.trans (hX31.mono (by omega))
    clear b_30 hX31
    have cell_q:=q_31.cell
    have froz_q:=q_31.frozen
    have lt_q:=q_31.lt
    have ek3:w31.cell? ⟨gb,j,none⟩=some (.bool false):=(HI.out.2.below b_31).cell (bools_get (by have:=HI.out.2.cell (bools_get (L:=LV) (k:=j) (v:=LV.getD j false) (getD_some (by have:=HLL.out; omega))); rw [ek] at this; injection this with this; injection this with this; rw [getD_some (L:=LV) (i:=j) (by have:=HLL.out; omega),←this]))
    have HF:=hid (And.intro (HI.out.1.below b_31) (HI.out.2.below b_31))
    clear b_31 q_31 cell_x froz_x lt_x
    go_wp2
    go_roundw
    case rel=>exact ⟨j + 1,by omega,by go_num,by rw [HS.out]; exact HF.out.1,HF.out.2⟩
    case measure=>simp [intOf]; omega
   ·have hls:prS gs LV st j=(st.1 ++ [reG st.2 ⟨q,a,b⟩],st.2.set j (st.1.length:Int)):=by unfold prS; rw [if_pos hlv,egd]
    clear hlv egd
    rcases gate_kind hgv with hk2 | hk2 | hk2 | hk2 | hk2
    ·obtain rfl:q=1:=hk2
     have hre:reG st.2 ⟨1,a,b⟩=⟨1,a,b⟩:=rfl
     rw [hre] at hls
     have HS:=hid (hst.trans hls)
     clear hst hls hre hgv
     have HI:=hid hI
     have HL:=hid hl
     clear hI hl
     have b_30:=(Below.refl wr.heap.size wr)
     have s_30:=b_30.size
     go_upto_region 15 with (go_at_call 126; refine (sTwo _ _).mono ?_; rintro e w' ⟨rfl,rfl⟩)
     refine wp_forget1 (w0:=wr) (B:=wr.heap.size) (b0:=wr.heap.size) (t0:=96) (c0:=#[.int .i64 1,.int .i64 a,.int .i64 b]) ?_ ?_ ?_
     (focus exact blkcBy2)
     (focus (exact belBy))
     intro w31 q_31 hX31
     have sX31:=hX31.size
     have q_lt:=q_31.lt
     have b_31:=b_30.trans (hX31.mono (by omega))
     clear b_30 hX31
     have cell_q:=q_31.cell
     have froz_q:=q_31.frozen
     have lt_q:=q_31.lt
     have hI3:=HI.out.below b_31
     have hL3:=HL.out.below b_31
     have HQ:=hid q_31
     have z31:=b_31.size
     obtain ⟨Gx,cgx,hbk,_,hg1⟩:=hI3.b
     have cell_y:=hbk.cell
     have froz_y:=hbk.frozen
     have lt_y:=hbk.lt
     have ht3:=hI3.t
     rw [htl] at ht3
     have hgl:=ht3.lt
     have fj:w31.cell? ⟨gt,j,none⟩=some (.int .i64 (st.2.getD j 0)):=ht3.cell (ints_get (by rw [List.getD_eq_getElem?_getD,List.getElem?_eq_getElem (show j < st.2.length by omega)]; rfl))
     have zj:=World.ownsRow.frozenAt ht3 j
     have HI3:=hid hI3
     have HT3:=hid ht3
     have HL3:=hid hL3
     clear b_31 q_31 HI HL hI3 hL3 hbk hg1 ht3 cell_x froz_x lt_x d0 d1 d2 ek
     go_upto_region 16 with fail
     refine wp_noteI HT3.out j (st.1.length:Int) ?_
     intro w32 r32 g32
     have hI4:=SimI.set_ HI3.out (j:=j) (v:=(st.1.length:Int)) (by rw [htl]; exact r32) g32
     have hL4:=HL3.out.grown g32 (row_apart HL3.out HT3.out (by decide))
     have hq4:=gr_blk g32 HQ.out (fun q hq=>by injection hq with hq; subst hq; exact HT3.out.not_blk HQ.out (by decide))
     obtain ⟨Gx,cgx,hbk,hle,hg1⟩:=hI4.b
     have cell_y:=hbk.cell
     have froz_y:=hbk.frozen
     have lt_y:=hbk.lt
     have cell_q:=hq4.cell
     have lt_q:=hq4.lt
     have HI4:=hid (And.intro hI4 (And.intro hL4 (And.intro hbk hg1)))
     have hsz4:=hI4.bl.size
     have hlb4:=hI4.lb
     clear hI4 hL4 hq4 hbk hg1 r32 g32 HI3 HT3 HL3 HQ fj zj froz_q
     go_wp2_with (at_builtin; refine wpList_appi rfl _ _ 38 rfl bc TG (.agg #[.int .i64 0,.int .i64 0,.int .i64 0]) 3 24 Tryz.underlying38 infoGt rfl (by decide) _ st.1.length _ rfl (HI4.out.2.2.2.alloc _) ⟨w32.heap.size,0,none⟩ 1 1 _ rfl rfl (many_new _ [_,_,_] _) (int3_one _ _ _) (by omega) (by decide) (by simp; omega) ?_)
     intro A' c' w5 h1 h2 _
     have h2:=grown_alloc h2
     obtain ⟨hb5,hB5,hS5⟩:=bld_put (T:=TS) (g:=⟨1,a,b⟩) (by decide) HI4.out.2.2.1 hle HI4.out.2.2.2 h1 h2
     have HF:=hid (And.intro (SimI.stay HI4.out.1 hB5 hS5) (hS5.row HI4.out.2.1 (by decide) (by decide)))
     have cell_5:=hb5.cell
     have froz_5:=hb5.frozen
     have lt_5:=hb5.lt
     clear h1 h2 hb5 hB5 hS5 HI4 cell_y froz_y lt_y cell_q lt_q
     go_wp2
     go_roundw
     case rel=>exact ⟨j + 1,by omega,by go_num,by rw [HS.out]; exact HF.out.1,HF.out.2⟩
     case measure=>simp [intOf]; omega
    ·obtain rfl:q=2:=hk2
     have hre:reG st.2 ⟨2,a,b⟩=⟨2,a,b⟩:=rfl
     rw [hre] at hls
     have HS:=hid (hst.trans hls)
     clear hst hls hre hgv
     have HI:=hid hI
     have HL:=hid hl
     clear hI hl
     have b_30:=(Below.refl wr.heap.size wr)
     have s_30:=b_30.size
     go_upto_region 15 with (go_at_call 126; refine (sTwo _ _).mono ?_; rintro e w' ⟨rfl,rfl⟩)
     refine wp_forget1 (w0:=wr) (B:=wr.heap.size) (b0:=wr.heap.size) (t0:=96) (c0:=#[.int .i64 2,.int .i64 a,.int .i64 b]) ?_ ?_ ?_
     (focus exact blkcBy2)
     (focus (exact belBy))
     intro w31 q_31 hX31
     have sX31:=hX31.size
     have q_lt:=q_31.lt
     have b_31:=b_30.trans (hX31.mono (by omega))
     clear b_30 hX31
     have cell_q:=q_31.cell
     have froz_q:=q_31.frozen
     have lt_q:=q_31.lt
     have hI3:=HI.out.below b_31
     have hL3:=HL.out.below b_31
     have HQ:=hid q_31
     have z31:=b_31.size
     obtain ⟨Gx,cgx,hbk,_,hg1⟩:=hI3.b
     have cell_y:=hbk.cell
     have froz_y:=hbk.frozen
     have lt_y:=hbk.lt
     have ht3:=hI3.t
     rw [htl] at ht3
     have hgl:=ht3.lt
     have fj:w31.cell? ⟨gt,j,none⟩=some (.int .i64 (st.2.getD j 0)):=ht3.cell (ints_get (by rw [List.getD_eq_getElem?_getD,List.getElem?_eq_getElem (show j < st.2.length by omega)]; rfl))
     have zj:=World.ownsRow.frozenAt ht3 j
     have HI3:=hid hI3
     have HT3:=hid ht3
     have HL3:=hid hL3
     clear b_31 q_31 HI HL hI3 hL3 hbk hg1 ht3 cell_x froz_x lt_x d0 d1 d2 ek
     go_upto_region 16 with fail
     refine wp_noteI HT3.out j (st.1.length:Int) ?_
     intro w32 r32 g32
     have hI4:=SimI.set_ HI3.out (j:=j) (v:=(st.1.length:Int)) (by rw [htl]; exact r32) g32
     have hL4:=HL3.out.grown g32 (row_apart HL3.out HT3.out (by decide))
     have hq4:=gr_blk g32 HQ.out (fun q hq=>by injection hq with hq; subst hq; exact HT3.out.not_blk HQ.out (by decide))
     obtain ⟨Gx,cgx,hbk,hle,hg1⟩:=hI4.b
     have cell_y:=hbk.cell
     have froz_y:=hbk.frozen
     have lt_y:=hbk.lt
     have cell_q:=hq4.cell
     have lt_q:=hq4.lt
     have HI4:=hid (And.intro hI4 (And.intro hL4 (And.intro hbk hg1)))
     have hsz4:=hI4.bl.size
     have hlb4:=hI4.lb
     clear hI4 hL4 hq4 hbk hg1 r32 g32 HI3 HT3 HL3 HQ fj zj froz_q
     go_wp2_with (at_builtin; refine wpList_appi rfl _ _ 38 rfl bc TG (.agg #[.int .i64 0,.int .i64 0,.int .i64 0]) 3 24 Tryz.underlying38 infoGt rfl (by decide) _ st.1.length _ rfl (HI4.out.2.2.2.alloc _) ⟨w32.heap.size,0,none⟩ 1 1 _ rfl rfl (many_new _ [_,_,_] _) (int3_one _ _ _) (by omega) (by decide) (by simp; omega) ?_)
     intro A' c' w5 h1 h2 _
     have h2:=grown_alloc h2
     obtain ⟨hb5,hB5,hS5⟩:=bld_put (T:=TS) (g:=⟨2,a,b⟩) (by decide) HI4.out.2.2.1 hle HI4.out.2.2.2 h1 h2
     have HF:=hid (And.intro (SimI.stay HI4.out.1 hB5 hS5) (hS5.row HI4.out.2.1 (by decide) (by decide)))
     have cell_5:=hb5.cell
     have froz_5:=hb5.frozen
     have lt_5:=hb5.lt
     clear h1 h2 hb5 hB5 hS5 HI4 cell_y froz_y lt_y cell_q lt_q
     go_wp2
     go_roundw
     case rel=>exact ⟨j + 1,by omega,by go_num,by rw [HS.out]; exact HF.out.1,HF.out.2⟩
     case measure=>simp [intOf]; omega
    ·obtain rfl:q=3:=hk2
     have hab:=gate_is34 hgv (.inl rfl)
     dsimp only at hab
     obtain ⟨a,rfl⟩:=Int.eq_ofNat_of_zero_le hab.1.1
     obtain ⟨b,rfl⟩:=Int.eq_ofNat_of_zero_le hab.2.1
     obtain ⟨va,hva⟩:∃ v,st.2.getD a 0=v:=⟨_,rfl⟩
     obtain ⟨vb,hvb⟩:∃ v,st.2.getD b 0=v:=⟨_,rfl⟩
     have fa:wr.cell? ⟨gt,a,none⟩=some (.int .i64 va):=hI.t.cell (ints_get (by rw [List.getElem?_eq_getElem (show a < st.2.length by omega),←hva,List.getD_eq_getElem?_getD,List.getElem?_eq_getElem (show a < st.2.length by omega)]; rfl))
     have fb:wr.cell? ⟨gt,b,none⟩=some (.int .i64 vb):=hI.t.cell (ints_get (by rw [List.getElem?_eq_getElem (show b < st.2.length by omega),←hvb,List.getD_eq_getElem?_getD,List.getElem?_eq_getElem (show b < st.2.length by omega)]; rfl))
     have ha':(a:Int) < (gs.length:Int):=by omega
     have hb':(b:Int) < (gs.length:Int):=by omega
     have hre:reG st.2 ⟨3,(a:Int),(b:Int)⟩=⟨3,va,vb⟩:=by rw [←hva,←hvb]; rfl
     rw [hre] at hls
     have HS:=hid (hst.trans hls)
     clear hst hls hre hgv hva hvb
     have HI:=hid hI
     have HL:=hid hl
     clear hI hl
     have b_30:=(Below.refl wr.heap.size wr)
     have s_30:=b_30.size
     go_upto_region 15 with (go_at_call 126; refine (sTwo _ _).mono ?_; rintro e w' ⟨rfl,rfl⟩)
     refine wp_forget1 (w0:=wr) (B:=wr.heap.size) (b0:=wr.heap.size) (t0:=96) (c0:=#[.int .i64 3,.int .i64 va,.int .i64 vb]) ?_ ?_ ?_
     (focus exact blkcBy2)
     (focus (exact belBy))
     intro w31 q_31 hX31
     have sX31:=hX31.size
     have q_lt:=q_31.lt
     have b_31:=b_30.trans (hX31.mono (by omega))
     clear b_30 hX31
     have cell_q:=q_31.cell
     have froz_q:=q_31.frozen
     have lt_q:=q_31.lt
     have hI3:=HI.out.below b_31
     have hL3:=HL.out.below b_31
     have HQ:=hid q_31
     have z31:=b_31.size
     obtain ⟨Gx,cgx,hbk,_,hg1⟩:=hI3.b
     have cell_y:=hbk.cell
     have froz_y:=hbk.frozen
     have lt_y:=hbk.lt
     have ht3:=hI3.t
     rw [htl] at ht3
     have hgl:=ht3.lt
     have fj:w31.cell? ⟨gt,j,none⟩=some (.int .i64 (st.2.getD j 0)):=ht3.cell (ints_get (by rw [List.getD_eq_getElem?_getD,List.getElem?_eq_getElem (show j < st.2.length by omega)]; rfl))
     have zj:=World.ownsRow.frozenAt ht3 j
     have HI3:=hid hI3
     have HT3:=hid ht3
     have HL3:=hid hL3
     clear b_31 q_31 HI HL hI3 hL3 hbk hg1 ht3 cell_x froz_x lt_x d0 d1 d2 ek fa fb
     go_upto_region 16 with fail
     refine wp_noteI HT3.out j (st.1.length:Int) ?_
     intro w32 r32 g32
     have hI4:=SimI.set_ HI3.out (j:=j) (v:=(st.1.length:Int)) (by rw [htl]; exact r32) g32
     have hL4:=HL3.out.grown g32 (row_apart HL3.out HT3.out (by decide))
     have hq4:=gr_blk g32 HQ.out (fun q hq=>by injection hq with hq; subst hq; exact HT3.out.not_blk HQ.out (by decide))
     obtain ⟨Gx,cgx,hbk,hle,hg1⟩:=hI4.b
     have cell_y:=hbk.cell
     have froz_y:=hbk.frozen
     have lt_y:=hbk.lt
     have cell_q:=hq4.cell
     have lt_q:=hq4.lt
     have HI4:=hid (And.intro hI4 (And.intro hL4 (And.intro hbk hg1)))
     have hsz4:=hI4.bl.size
     have hlb4:=hI4.lb
     clear hI4 hL4 hq4 hbk hg1 r32 g32 HI3 HT3 HL3 HQ fj zj froz_q
     go_wp2_with (at_builtin; refine wpList_appi rfl _ _ 38 rfl bc TG (.agg #[.int .i64 0,.int .i64 0,.int .i64 0]) 3 24 Tryz.underlying38 infoGt rfl (by decide) _ st.1.length _ rfl (HI4.out.2.2.2.alloc _) ⟨w32.heap.size,0,none⟩ 1 1 _ rfl rfl (many_new _ [_,_,_] _) (int3_one _ _ _) (by omega) (by decide) (by simp; omega) ?_)
     intro A' c' w5 h1 h2 _
     have h2:=grown_alloc h2
     obtain ⟨hb5,hB5,hS5⟩:=bld_put (T:=TS) (g:=⟨3,va,vb⟩) (by decide) HI4.out.2.2.1 hle HI4.out.2.2.2 h1 h2
     have HF:=hid (And.intro (SimI.stay HI4.out.1 hB5 hS5) (hS5.row HI4.out.2.1 (by decide) (by decide)))
     have cell_5:=hb5.cell
     have froz_5:=hb5.frozen
     have lt_5:=hb5.lt
     clear h1 h2 hb5 hB5 hS5 HI4 cell_y froz_y lt_y cell_q lt_q
     go_wp2
     go_roundw
     case rel=>exact ⟨j + 1,by omega,by go_num,by rw [HS.out]; exact HF.out.1,HF.out.2⟩
     case measure=>simp [intOf]; omega
    ·obtain rfl:q=4:=hk2
     have hab:=gate_is34 hgv (.inr rfl)
     dsimp only at hab
     obtain ⟨a,rfl⟩:=Int.eq_ofNat_of_zero_le hab.1.1
     obtain ⟨b,rfl⟩:=Int.eq_ofNat_of_zero_le hab.2.1
     obtain ⟨va,hva⟩:∃ v,st.2.getD a 0=v:=⟨_,rfl⟩
     obtain ⟨vb,hvb⟩:∃ v,st.2.getD b 0=v:=⟨_,rfl⟩
     have fa:wr.cell? ⟨gt,a,none⟩=some (.int .i64 va):=hI.t.cell (ints_get (by rw [List.getElem?_eq_getElem (show a < st.2.length by omega),←hva,List.getD_eq_getElem?_getD,List.getElem?_eq_getElem (show a < st.2.length by omega)]; rfl))
     have fb:wr.cell? ⟨gt,b,none⟩=some (.int .i64 vb):=hI.t.cell (ints_get (by rw [List.getElem?_eq_getElem (show b < st.2.length by omega),←hvb,List.getD_eq_getElem?_getD,List.getElem?_eq_getElem (show b < st.2.length by omega)]; rfl))
     have ha':(a:Int) < (gs.length:Int):=by omega
     have hb':(b:Int) < (gs.length:Int):=by omega
     have hre:reG st.2 ⟨4,(a:Int),(b:Int)⟩=⟨4,va,vb⟩:=by rw [←hva,←hvb]; rfl
     rw [hre] at hls
     have HS:=hid (hst.trans hls)
     clear hst hls hre hgv hva hvb
     have HI:=hid hI
     have HL:=hid hl
     clear hI hl
     have b_30:=(Below.refl wr.heap.size wr)
     have s_30:=b_30.size
     go_upto_region 15 with (go_at_call 126; refine (sTwo _ _).mono ?_; rintro e w' ⟨rfl,rfl⟩)
     refine wp_forget1 (w0:=wr) (B:=wr.heap.size) (b0:=wr.heap.size) (t0:=96) (c0:=#[.int .i64 4,.int .i64 va,.int .i64 vb]) ?_ ?_ ?_
     (focus exact blkcBy2)
     (focus (exact belBy))
     intro w31 q_31 hX31
     have sX31:=hX31.size
     have q_lt:=q_31.lt
     have b_31:=b_30.trans (hX31.mono (by omega))
     clear b_30 hX31
     have cell_q:=q_31.cell
     have froz_q:=q_31.frozen
     have lt_q:=q_31.lt
     have hI3:=HI.out.below b_31
     have hL3:=HL.out.below b_31
     have HQ:=hid q_31
     have z31:=b_31.size
     obtain ⟨Gx,cgx,hbk,_,hg1⟩:=hI3.b
     have cell_y:=hbk.cell
     have froz_y:=hbk.frozen
     have lt_y:=hbk.lt
     have ht3:=hI3.t
     rw [htl] at ht3
     have hgl:=ht3.lt
     have fj:w31.cell? ⟨gt,j,none⟩=some (.int .i64 (st.2.getD j 0)):=ht3.cell (ints_get (by rw [List.getD_eq_getElem?_getD,List.getElem?_eq_getElem (show j < st.2.length by omega)]; rfl))
     have zj:=World.ownsRow.frozenAt ht3 j
     have HI3:=hid hI3
     have HT3:=hid ht3
     have HL3:=hid hL3
     clear b_31 q_31 HI HL hI3 hL3 hbk hg1 ht3 cell_x froz_x lt_x d0 d1 d2 ek fa fb
     go_upto_region 16 with fail
     refine wp_noteI HT3.out j (st.1.length:Int) ?_
     intro w32 r32 g32
     have hI4:=SimI.set_ HI3.out (j:=j) (v:=(st.1.length:Int)) (by rw [htl]; exact r32) g32
     have hL4:=HL3.out.grown g32 (row_apart HL3.out HT3.out (by decide))
     have hq4:=gr_blk g32 HQ.out (fun q hq=>by injection hq with hq; subst hq; exact HT3.out.not_blk HQ.out (by decide))
     obtain ⟨Gx,cgx,hbk,hle,hg1⟩:=hI4.b
     have cell_y:=hbk.cell
     have froz_y:=hbk.frozen
     have lt_y:=hbk.lt
     have cell_q:=hq4.cell
     have lt_q:=hq4.lt
     have HI4:=hid (And.intro hI4 (And.intro hL4 (And.intro hbk hg1)))
     have hsz4:=hI4.bl.size
     have hlb4:=hI4.lb
     clear hI4 hL4 hq4 hbk hg1 r32 g32 HI3 HT3 HL3 HQ fj zj froz_q
     go_wp2_with (at_builtin; refine wpList_appi rfl _ _ 38 rfl bc TG (.agg #[.int .i64 0,.int .i64 0,.int .i64 0]) 3 24 Tryz.underlying38 infoGt rfl (by decide) _ st.1.length _ rfl (HI4.out.2.2.2.alloc _) ⟨w32.heap.size,0,none⟩ 1 1 _ rfl rfl (many_new _ [_,_,_] _) (int3_one _ _ _) (by omega) (by decide) (by simp; omega) ?_)
     intro A' c' w5 h1 h2 _
     have h2:=grown_alloc h2
     obtain ⟨hb5,hB5,hS5⟩:=bld_put (T:=TS) (g:=⟨4,va,vb⟩) (by decide) HI4.out.2.2.1 hle HI4.out.2.2.2 h1 h2
     have HF:=hid (And.intro (SimI.stay HI4.out.1 hB5 hS5) (hS5.row HI4.out.2.1 (by decide) (by decide)))
     have cell_5:=hb5.cell
     have froz_5:=hb5.frozen
     have lt_5:=hb5.lt
     clear h1 h2 hb5 hB5 hS5 HI4 cell_y froz_y lt_y cell_q lt_q
     go_wp2
     go_roundw
     case rel=>exact ⟨j + 1,by omega,by go_num,by rw [HS.out]; exact HF.out.1,HF.out.2⟩
     case measure=>simp [intOf]; omega
    ·obtain rfl:q=5:=hk2
     have hab:=gate_is5 hgv rfl
     dsimp only at hab
     obtain ⟨hab,hb0⟩:=hab
     subst hb0
     obtain ⟨a,rfl⟩:=Int.eq_ofNat_of_zero_le hab.1
     obtain ⟨va,hva⟩:∃ v,st.2.getD a 0=v:=⟨_,rfl⟩
     have fa:wr.cell? ⟨gt,a,none⟩=some (.int .i64 va):=hI.t.cell (ints_get (by rw [List.getElem?_eq_getElem (show a < st.2.length by omega),←hva,List.getD_eq_getElem?_getD,List.getElem?_eq_getElem (show a < st.2.length by omega)]; rfl))
     have ha':(a:Int) < (gs.length:Int):=by omega
     have hre:reG st.2 ⟨5,(a:Int),0⟩=⟨5,va,0⟩:=by rw [←hva]; rfl
     rw [hre] at hls
     have HS:=hid (hst.trans hls)
     clear hst hls hre hgv hva
     have HI:=hid hI
     have HL:=hid hl
     clear hI hl
     have b_30:=(Below.refl wr.heap.size wr)
     have s_30:=b_30.size
     go_upto_region 15 with (go_at_call 126; refine (sTwo _ _).mono ?_; rintro e w' ⟨rfl,rfl⟩)
     refine wp_forget1 (w0:=wr) (B:=wr.heap.size) (b0:=wr.heap.size) (t0:=96) (c0:=#[.int .i64 5,.int .i64 va,.int .i64 0]) ?_ ?_ ?_
     (focus exact blkcBy2)
     (focus (exact belBy))
     intro w31 q_31 hX31
     have sX31:=hX31.size
     have q_lt:=q_31.lt
     have b_31:=b_30.trans (hX31.mono (by omega))
     clear b_30 hX31
     have cell_q:=q_31.cell
     have froz_q:=q_31.frozen
     have lt_q:=q_31.lt
     have hI3:=HI.out.below b_31
     have hL3:=HL.out.below b_31
     have HQ:=hid q_31
     have z31:=b_31.size
     obtain ⟨Gx,cgx,hbk,_,hg1⟩:=hI3.b
     have cell_y:=hbk.cell
     have froz_y:=hbk.frozen
     have lt_y:=hbk.lt
     have ht3:=hI3.t
     rw [htl] at ht3
     have hgl:=ht3.lt
     have fj:w31.cell? ⟨gt,j,none⟩=some (.int .i64 (st.2.getD j 0)):=ht3.cell (ints_get (by rw [List.getD_eq_getElem?_getD,List.getElem?_eq_getElem (show j < st.2.length by omega)]; rfl))
     have zj:=World.ownsRow.frozenAt ht3 j
     have HI3:=hid hI3
     have HT3:=hid ht3
     have HL3:=hid hL3
     clear b_31 q_31 HI HL hI3 hL3 hbk hg1 ht3 cell_x froz_x lt_x d0 d1 d2 ek fa
     go_upto_region 16 with fail
     refine wp_noteI HT3.out j (st.1.length:Int) ?_
     intro w32 r32 g32
     have hI4:=SimI.set_ HI3.out (j:=j) (v:=(st.1.length:Int)) (by rw [htl]; exact r32) g32
     have hL4:=HL3.out.grown g32 (row_apart HL3.out HT3.out (by decide))
     have hq4:=gr_blk g32 HQ.out (fun q hq=>by injection hq with hq; subst hq; exact HT3.out.not_blk HQ.out (by decide))
     obtain ⟨Gx,cgx,hbk,hle,hg1⟩:=hI4.b
     have cell_y:=hbk.cell
     have froz_y:=hbk.frozen
     have lt_y:=hbk.lt
     have cell_q:=hq4.cell
     have lt_q:=hq4.lt
     have HI4:=hid (And.intro hI4 (And.intro hL4 (And.intro hbk hg1)))
     have hsz4:=hI4.bl.size
     have hlb4:=hI4.lb
     clear hI4 hL4 hq4 hbk hg1 r32 g32 HI3 HT3 HL3 HQ fj zj froz_q
     go_wp2_with (at_builtin; refine wpList_appi rfl _ _ 38 rfl bc TG (.agg #[.int .i64 0,.int .i64 0,.int .i64 0]) 3 24 Tryz.underlying38 infoGt rfl (by decide) _ st.1.length _ rfl (HI4.out.2.2.2.alloc _) ⟨w32.heap.size,0,none⟩ 1 1 _ rfl rfl (many_new _ [_,_,_] _) (int3_one _ _ _) (by omega) (by decide) (by simp; omega) ?_)
     intro A' c' w5 h1 h2 _
     have h2:=grown_alloc h2
     obtain ⟨hb5,hB5,hS5⟩:=bld_put (T:=TS) (g:=⟨5,va,0⟩) (by decide) HI4.out.2.2.1 hle HI4.out.2.2.2 h1 h2
     have HF:=hid (And.intro (SimI.stay HI4.out.1 hB5 hS5) (hS5.row HI4.out.2.1 (by decide) (by decide)))
     have cell_5:=hb5.cell
     have froz_5:=hb5.frozen
     have lt_5:=hb5.lt
     clear h1 h2 hb5 hB5 hS5 HI4 cell_y froz_y lt_y cell_q lt_q
     go_wp2
     go_roundw
     case rel=>exact ⟨j + 1,by omega,by go_num,by rw [HS.out]; exact HF.out.1,HF.out.2⟩
     case measure=>simp [intOf]; omega
  ·obtain rfl:j=gs.length:=by omega
   obtain ⟨st,hst⟩:∃ c,prTo gs LV gs.length=c:=⟨_,rfl⟩
   rw [hst] at hI HR
   have htl:=hok.tl
   rw [hst] at htl
   have HTL:=hid htl
   have HAT:=hid (show ∀ x:Nat,x < gs.length→st.2[x]? = some (st.2.getD x 0) from fun x hx=>by rw [List.getD_eq_getElem?_getD,List.getElem?_eq_getElem (by omega)]; rfl)
   have HI:=hid hI
   clear hI hok hst HT HV cell_x froz_x lt_x htl hl
   have cell_x:=HI.out.x.cell
   have lt_x:=HI.out.x.lt
   go_wp2_with fail
   clear cell_x lt_x
   go_loopw [8] (fun i wr=>∃ (m:Nat) (A:Option Addr) (kO:Nat),m≤os.length∧i=.int .i64 (m:Int)∧SimI w bc gt gs.length G gs.length cg O os.length co st.1 st.2 A kO (mapO st.2 (os.take m)) wr) (fun i _=>os.length - (intOf i).toNat)
   case atStart=>exact ⟨0,none,0,Nat.zero_le _,rfl,HI.out⟩
   case round =>
    clear HI
    obtain ⟨m,A,kO,hm2,rfl,hI⟩:=hrel
    have cell_x:=hI.x.cell
    have lt_x:=hI.x.lt
    by_cases hlt:m < os.length
    ·obtain ⟨x,hx⟩:∃ s,os[m]? = some s:=⟨_,List.getElem?_eq_getElem hlt⟩
     have hw:=wireB_iff.1 (HOV.out x (List.mem_of_getElem? hx))
     obtain ⟨mx,rfl⟩:=Int.eq_ofNat_of_zero_le hw.1
     have hA1:=HAT.out mx (by omega)
     obtain ⟨v,hv⟩:∃ v,st.2.getD mx 0=v:=⟨_,rfl⟩
     have hmo:mapO st.2 (os.take (m + 1))=mapO st.2 (os.take m) ++ [v]:=by
      obtain ⟨hl,e⟩:=List.getElem?_eq_some_iff.1 hx
      rw [List.take_succ_eq_append_getElem hl,e]
      simp only [mapO,List.map_append,List.map_cons,List.map_nil,Int.toNat_natCast,hv]
     have hml:(mapO st.2 (os.take m)).length=m:=by simp [mapO]; omega
     rw [hv] at hA1
     obtain ⟨bo,oo,rfl,hBo,e0⟩:=int_cells HO.out hI.bl hx
     have hbo:=hI.bl.size
     obtain ⟨outs,houts⟩:∃ c,mapO st.2 (os.take m)=c:=⟨_,rfl⟩
     rw [houts] at hI hmo hml
     have hml2:outs.length≤1000000:=by omega
     have hlt':(m:Int) < (os.length:Int):=by omega
     have htl:=HTL.out
     have hmx:(mx:Int) < (gs.length:Int):=by omega
     have m00:(0:Int)≤(m:Int):=by omega
     have mx0:(0:Int)≤(mx:Int):=by omega
     have f0:=hI.t.cell (ints_get hA1)
     have hgl:=hI.t.lt
     obtain ⟨Gx,cgx,hbk,_,hg1⟩:=hI.b
     have cell_y:=hbk.cell
     have froz_y:=hbk.frozen
     have lt_y:=hbk.lt
     have hlb:=hI.lb
     have hou:=hI.o
     have hne1:=hid (own_ne_obj hou hbk (by decide))
     have HI:=hid (And.intro hI (And.intro hbk hg1))
     have HMO:=hid (And.intro hmo hml)
     have hb1:outs.length + 1≤1000000 + 1:=by omega
     have hb1:outs.length + 1≤1000000:=by omega
     clear hI hx hmo hml houts hw hA1 hv htl hg1
     go_upto_region 20 with fail
     go_region_law (refine step_int_any (base:=bc) (L:=outs) rfl (.tmp 81) (.tmp 90) rfl (v:=Value.slice A outs.length kO) rfl ?_ ?_ [v] rfl rfl ?_ (by decide) hb1 ?_; (focus (exact ownBy)); (focus (first | omega | (simp; omega))); (focus (exact top_cells _ [_] _)); intro g' c' w5 ho5 hg5 hl5; have kx5:=gr_blk hg5 (b:=bc) (t:=TS) (cs:=#[.slice Gx st.1.length cgx,.slice A outs.length kO]) (by exact blkcBy2) hne1.out; have cell_5:=kx5.cell; have froz_5:=kx5.frozen; have lt_5:=kx5.lt)
     all_goals
      have h3':(Value.slice A outs.length kO).ownBlock=some g'∨wr.heap.size≤g':=by
       rcases hl5 with h | h
       ·exact .inl h
       ·refine .inr ?_
        (try simp at h)
        omega
      have HF:=hid (SimI.app HI.out.1 HI.out.2.1 HI.out.2.2 (by exact belBy) ho5 hg5 h3')
      clear ho5 hg5 hl5 kx5 cell_5 froz_5 lt_5 hou hbk h3' f0 e0 cell_x lt_x cell_y froz_y lt_y
      go_wp2
      go_roundw
      case rel=>exact ⟨m + 1,some ⟨g',0,none⟩,c',by omega,by go_num,by rw [HMO.out.1]; exact HF.out⟩
      case measure=>simp [intOf]; omega
    ·obtain rfl:m=os.length:=by omega
     have hcu:mapO st.2 (os.take os.length)=mapO st.2 os:=by rw [List.take_length]
     rw [hcu] at hI
     obtain ⟨Gx,cgx,hbk,_,hg1⟩:=hI.b
     have cell_y:=hbk.cell
     have froz_y:=hbk.frozen
     have lt_y:=hbk.lt
     have cell_r:=hI.r.cell
     have froz_r:=hI.r.frozen
     have lt_r:=hI.r.lt
     have hlb:=hI.lb
     have hne:bc≠w.heap.size + 1:=by omega
     have hne2:w.heap.size + 1≠bc:=by omega
     have HI:=hid (And.intro hI (And.intro hbk hg1))
     have hmo:(mapO st.2 os).length=os.length:=by simp [mapO]
     clear hI hbk hg1 hcu hmo
     go_wp2
     ((try simp only [Exit.inBlock,Exit.then]); apply bodyPost_ret0; focus ((try simp only [results,Tryz.results64]); (try go_simp); (try rfl)))
     rw [HR.out]
     exact give_k HI.out.1.r (own_weak HI.out.2.2 (by omega)) (own_weak HI.out.1.o (by omega)) HI.out.1.bl (by omega) (by exact tchBy)
end Go.Proofs.YtihbaieiempjeaaGreat
