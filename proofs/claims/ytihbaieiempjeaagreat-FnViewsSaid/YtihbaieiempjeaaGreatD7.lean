/- Lemmas of the proof: IsWord, Nots, AddW, Const, Nib, StepA. -/
import Derived.Test.YtihbaieiempjeaaGreatD0
import Derived.Test.YtihbaieiempjeaaGreatD6
import Derived.Deep.AppendLies
import Derived.Deep.RegionHeld3
namespace Go.Proofs.YtihbaieiempjeaaGreat
open Go.RowKit
theorem circ_yes {gs:List Gt} (h:gatesB 0 gs=true) (hl:gs.length≤5900):circB gs []=true:=by
 unfold circB
 rw [h,decide_eq_true (by omega)]
 rfl
def WordsOk (w:World) (n:Nat) (vals:List Value):Prop:=∀ (j:Nat) (v:Value),vals[j]? = some v→∃ b off c xs,v=Value.slice (some ⟨b,off,none⟩) 4 c∧Wd w (some ⟨b,off,none⟩) xs∧wordB4 n xs=true
theorem wordB4_at {n:Nat} {xs:List Int} (h:wordB4 n xs=true):xs.length=4∧∀ {i:Nat} {x:Int},xs[i]? = some x→inB x 0 ((n:Int) - 1)=true:=by
 unfold wordB4 at h
 rw [Bool.and_eq_true,decide_eq_true_eq] at h
 refine ⟨h.1,fun {i x} hx=>?_⟩
 exact List.all_eq_true.1 h.2 x (List.mem_of_getElem? hx)
set_option linter.unusedVariables false in
set_option maxRecDepth 100000 in
set_option maxHeartbeats 3200000 in
theorem iIsWordOf (G O W:Option Addr) (cg co cw nw:Nat) (gs:List Gt) (vals:List Value) (w:World) (hg:Cells w w.heap.size G (ints (flatG gs))) (hok:gatesB 0 gs=true) (hl:gs.length≤5900) (hv:vals.length=nw) (hc:Cells w w.heap.size W vals) (hw:WordsOk w gs.length vals) (hn:nw≤1000) :
  Calls Tryz.prog 157 #[.agg #[.slice G gs.length cg,.slice O 0 co],.slice W nw cw] w fun e w'=>e=.returned (.bool true)∧Below w.heap.size w w':=by
 have HG:=hid hg
 have HC:=hid hc
 have HW:=hid hw
 have HCO:=hid (fun w hg=>iCircOk G O cg co gs [] w hg Cells.nil_ (by omega) (by simp))
 rw [circ_yes hok hl] at HCO
 clear hg hc hw
 go_enter Tryz.func157,Tryz.ntmps157
 have b_0:=(Below.refl w.heap.size w)
 have s_0:=b_0.size
 go_upto_region 1 with fail
 refine wp_forget1 (w0:=w) (B:=w.heap.size) (b0:=w.heap.size) (t0:=40) (c0:=#[.slice G gs.length cg,.slice O 0 co]) ?_ ?_ ?_
 (focus exact blkcBy)
 (focus (exact belBy))
 intro w1 x_1 hX1
 have sX1:=hX1.size
 have x_lt:=x_1.lt
 have b_1:=b_0.trans (hX1.mono (by omega))
 clear b_0 hX1
 have cell_x:=x_1.cell
 have froz_x:=x_1.frozen
 have lt_x:=x_1.lt
 have X1:=hid x_1
 have B1:=hid b_1
 clear x_1 b_1 froz_x lt_x cell_x
 go_wp2
 go_loopw [6,8,11,17] (fun _ _ i _ wr=>∃ (j:Nat),j≤nw∧i=.int .i64 j∧Blk wr w.heap.size 40 #[.slice G gs.length cg,.slice O 0 co]∧Below w.heap.size w wr) (fun _ _ i _ _=>nw - (intOf i).toNat)
 case atStart=>exact ⟨0,Nat.zero_le _,rfl,X1.out,B1.out⟩
 case round =>
  obtain ⟨j,hj,rfl,hx,hb⟩:=hrel
  have zb:=hb.size
  have HX:=hid hx
  have HB:=hid hb
  by_cases hlt:j < nw
  ·obtain ⟨v,hq⟩:∃ s,vals[j]? = some s:=⟨_,List.getElem?_eq_getElem (by omega)⟩
   obtain ⟨bw,ow,rfl,hB,hcl⟩:=HC.out (by omega)
   obtain ⟨b,off,c,xs,rfl,hxs,hwx⟩:=HW.out j v hq
   have d0:wr.cell? ⟨bw,ow + j,none⟩=some (.slice (some ⟨b,off,none⟩) 4 c):=(hb.cell (p:=⟨bw,ow + j,none⟩) hB).trans (hcl j _ hq)
   have hlt':(j:Int) < (nw:Int):=by omega
   obtain ⟨hx4,hxw⟩:=wordB4_at hwx
   have HXS:=hid hxs
   have HXW:=hid (fun (i:Nat) (x:Int) (h:xs[i]? = some x)=>hxw h)
   clear hcl hq hx hb hwx hxw hxs
   go_wp2
   clear d0
   go_loopw [8,17] (fun _ i wx=>∃ (k:Nat),k≤4∧i=.int .i64 k∧Blk wx w.heap.size 40 #[.slice G gs.length cg,.slice O 0 co]∧Below w.heap.size w wx) (fun _ i _=>4 - (intOf i).toNat)
   case atStart=>exact ⟨0,Nat.zero_le _,rfl,HX.out,HB.out⟩
   case round =>
    obtain ⟨k,hk,rfl,hx,hb⟩:=hrel
    have cell_x:=hx.cell
    have lt_x:=hx.lt
    have HX2:=hid hx
    have HB2:=hid hb
    by_cases hlk:k < 4
    ·obtain ⟨x,hq⟩:∃ s,xs[k]? = some s:=⟨_,List.getElem?_eq_getElem (by omega)⟩
     have d0:wr.cell? ⟨b,off + k,none⟩=some (.int .i64 x):=(hb.cell (p:=⟨b,off + k,none⟩) HXS.out.lt).trans (HXS.out.cell hq)
     have hlk':(k:Int) < 4:=by omega
     have hwr:IntKind.i64.wrap ((gs.length:Int) - 1)=(gs.length:Int) - 1:=IntWalk.i64_in _ (by omega)
     have HI:=hid (fun w=>iWithin x 0 ((gs.length:Int) - 1) w)
     rw [HXW.out k x hq] at HI
     clear hq hx hb
     go_wp2_with (go_at_call 56; refine (HI.out _).mono ?_; rintro e w' ⟨rfl,rfl⟩)
     go_roundw
     case rel=>exact ⟨k + 1,by omega,by go_num,HX2.out,HB2.out⟩
     case measure=>simp [intOf]; omega
    ·obtain rfl:k=4:=by omega
     clear hx hb cell_x lt_x
     go_wp2
     go_roundw
     case rel=>exact ⟨j + 1,by omega,by go_num,HX2.out,HB2.out⟩
     case measure=>simp [intOf]; omega
  ·obtain rfl:j=nw:=by omega
   have cell_x:=hx.cell
   have lt_x:=hx.lt
   have hl':(gs.length:Int)≤5900:=by omega
   clear hx hb cell_x lt_x
   have hx:=HX.out
   have hb:=HB.out
   have b_40:=hb
   have s_40:=b_40.size
   have x_40:=hx
   clear hx
   have x_lt:=x_40.lt
   have cell_x:=x_40.cell
   have froz_x:=x_40.frozen
   have lt_x:=x_40.lt
   go_wp2_with fail
   refine calls_forget0 (W:=wr) ?_ ?_
   (focus (exact belBy))
   intro X41 hX41
   have sX41:=hX41.size
   refine (HCO.out _ ((HG.out.below (b_40.trans (hX41.mono (by omega)))).more (by have:=hX41.size; omega))).mono ?_
   rintro e w41 ⟨rfl,hb41⟩
   have s41:=hb41.size
   have hT41:=hX41.trans (hb41.mono sX41)
   have b_41:=b_40.trans (hT41.mono (by omega))
   have x_41:=Blk.past hT41 x_40
   clear x_40 b_40 cell_x froz_x lt_x hX41 hT41 hb41
   have cell_x:=x_41.cell
   have froz_x:=x_41.frozen
   have lt_x:=x_41.lt
   have HB41:=hid b_41
   clear b_41 x_41
   go_wp2
   go_ret
   exact ⟨rfl,HB41.out⟩
open Go.RowKit
set_option linter.unusedVariables false in
set_option maxRecDepth 100000 in
set_option maxHeartbeats 3200000 in
theorem iNots {lo bp:Nat} {gs:List Gt} {O:Value} {n N bx ox cx:Nat} {xs:List Int} (w:World) (h:Bld TI w lo bp gs O) (hn:gs.length=n) (hs:n≤50000) (hx:Wd w (some ⟨bx,ox,none⟩) xs) (hxl:xs.length=N) (hN:N≤100) :
  Calls Tryz.prog 187 #[.pointer (some ⟨bp,0,none⟩),.slice (some ⟨bx,ox,none⟩) N cx] w fun e w'=>∃ g k,e=.returned (.slice (some ⟨g,0,none⟩) N k)∧w.heap.size≤g∧RowI w' g N k (upW n N)∧Bld TI w' lo bp (notsG gs xs) O∧Stay TI lo w w':=by
 subst hn
 have hbx:=hx.lt
 have hbp:=h.len
 have H0:=hid (And.intro h hx)
 clear h hx
 go_enter Tryz.func187,Tryz.ntmps187
 go_upto_region 2 with fail
 obtain ⟨w1,hw1⟩:∃ w1,w1=w.alloc (.cells #[] 3):=⟨_,rfl⟩
 have hb:Below w.heap.size w w1:=by rw [hw1]; exact (Below.refl _ _).alloc (Nat.le_refl _) _
 have ho:RowI w1 w.heap.size 0 0 []:=by rw [hw1]; exact Row.new #[] (Nat.zero_le _) rfl rfl
 rw [←hw1]
 have H1:=hid (And.intro (H0.out.1.below hb) (And.intro (H0.out.2.below hb) (And.intro ho (Stay.of_below (T:=TI) (lo:=lo) hb))))
 clear ho hb H0 hw1
 go_wp2_with fail
 go_loopw [5,7,11] (fun o _ i wr=>∃ (m g k:Nat),m≤N∧i=.int .i64 (m:Int)∧o=.slice (some ⟨g,0,none⟩) m k∧w.heap.size≤g∧Bld TI wr lo bp (notsG gs (xs.take m)) O∧Wd wr (some ⟨bx,ox,none⟩) xs∧RowI wr g m k (upW gs.length m)∧Stay TI lo w wr) (fun _ _ i _=>N - (intOf i).toNat)
 case atStart=>exact ⟨0,w.heap.size,0,Nat.zero_le _,rfl,rfl,Nat.le_refl _,bld_cast H1.out.1 (by unfold notsG; simp),H1.out.2.1,H1.out.2.2.1,H1.out.2.2.2⟩
 case round =>
  clear H1
  obtain ⟨m,g,k,hm,rfl,rfl,hg,hB,hX,hR,hS⟩:=hrel
  have zr:=hS.size
  have lx:bx < wr.heap.size:=by omega
  by_cases hlt:m < N
  ·obtain ⟨x,e1⟩:∃ x,xs[m]? = some x:=⟨_,List.getElem?_eq_getElem (by omega)⟩
   have d1:=hX.cell e1
   have hlt':(m:Int) < (N:Int):=by omega
   have hlen:(notsG gs (xs.take m)).length=gs.length + m:=by rw [notsG_length,List.length_take]; omega
   have HT:=hid (show notsG gs (xs.take (m + 1))=notsG gs (xs.take m) ++ [⟨5,x,0⟩] by unfold notsG; rw [take_snoc e1,List.map_append,List.append_assoc]; rfl)
   have H:=hid (And.intro hB (And.intro hX (And.intro hR hS)))
   clear hB hX hR hS e1
   go_wp2_with fail
   refine Calls.mono (iGate (n:=gs.length + m) _ _ _ _ H.out.1 hlen (by omega)) ?_
   rintro e w3 ⟨rfl,h,t⟩
   have z3:=t.size
   have HR3:=hid (t.row H.out.2.2.1 (by decide) (by decide))
   have H3:=hid (And.intro h (And.intro (H.out.2.1.stay t (by decide)) (H.out.2.2.2.trans t)))
   clear h t H d1
   go_wp2_with (at_builtin; refine app_int rfl _ _ rfl rfl (HR3.out.alloc _) [((gs.length + m:Nat):Int)] rfl rfl (top_cells _ [_] _) (by omega) ?_)
   intro g' k' w4 h1 h2 h3
   have h2:=grown_alloc h2
   have hg':w.heap.size≤g':=by (try simp at h3); omega
   have H4:=hid (And.intro (H3.out.1.grown h2 HR3.out (by decide)) (And.intro (H3.out.2.1.grown h2 (by omega)) (And.intro (row_eq (ys:=upW gs.length (m + 1)) h1 (by rw [upW]; first | rfl | simp)) (H3.out.2.2.grown h2 hg))))
   clear h1 h2 h3 H3 HR3
   go_wp2
   go_roundw
   case rel=>exact ⟨m + 1,g',k',by omega,by go_num,rfl,hg',bld_cast H4.out.1 HT.out.symm,H4.out.2.1,H4.out.2.2.1,H4.out.2.2.2⟩
   case measure=>simp [intOf]; omega
  ·obtain rfl:m=N:=by omega
   have hlt':¬ (m:Int) < (m:Int):=by omega
   have ht:xs.take m=xs:=by rw [←hxl,List.take_length]
   rw [ht] at hB
   have H:=hid (And.intro hB (And.intro hR hS))
   clear hB hX hR hS ht
   go_wp2
   go_returns
   exact ⟨g,k,rfl,hg,H.out.2.1,H.out.1,H.out.2.2⟩
set_option linter.unusedVariables false in
set_option maxRecDepth 100000 in
set_option maxHeartbeats 3200000 in
theorem sNots {lo bp:Nat} {gs:List Gt} {O:Value} {n N bx ox cx:Nat} {xs:List Int} (w:World) (h:Bld TS w lo bp gs O) (hn:gs.length=n) (hs:n≤50000) (hx:Wd w (some ⟨bx,ox,none⟩) xs) (hxl:xs.length=N) (hN:N≤100) :
  Calls Tryz.prog 116 #[.pointer (some ⟨bp,0,none⟩),.slice (some ⟨bx,ox,none⟩) N cx] w fun e w'=>∃ g k,e=.returned (.slice (some ⟨g,0,none⟩) N k)∧w.heap.size≤g∧RowI w' g N k (upW n N)∧Bld TS w' lo bp (notsG gs xs) O∧Stay TS lo w w':=by
 subst hn
 have hbx:=hx.lt
 have hbp:=h.len
 have H0:=hid (And.intro h hx)
 clear h hx
 go_enter Tryz.func116,Tryz.ntmps116
 go_upto_region 2 with fail
 obtain ⟨w1,hw1⟩:∃ w1,w1=w.alloc (.cells #[] 3):=⟨_,rfl⟩
 have hb:Below w.heap.size w w1:=by rw [hw1]; exact (Below.refl _ _).alloc (Nat.le_refl _) _
 have ho:RowI w1 w.heap.size 0 0 []:=by rw [hw1]; exact Row.new #[] (Nat.zero_le _) rfl rfl
 rw [←hw1]
 have H1:=hid (And.intro (H0.out.1.below hb) (And.intro (H0.out.2.below hb) (And.intro ho (Stay.of_below (T:=TS) (lo:=lo) hb))))
 clear ho hb H0 hw1
 go_wp2_with fail
 go_loopw [5,6] (fun o i wr=>∃ (m g k:Nat),m≤N∧i=.int .i64 (m:Int)∧o=.slice (some ⟨g,0,none⟩) m k∧w.heap.size≤g∧Bld TS wr lo bp (notsG gs (xs.take m)) O∧Wd wr (some ⟨bx,ox,none⟩) xs∧RowI wr g m k (upW gs.length m)∧Stay TS lo w wr) (fun _ i _=>N - (intOf i).toNat)
 case atStart=>exact ⟨0,w.heap.size,0,Nat.zero_le _,rfl,rfl,Nat.le_refl _,bld_cast H1.out.1 (by unfold notsG; simp),H1.out.2.1,H1.out.2.2.1,H1.out.2.2.2⟩
 case round =>
  clear H1
  obtain ⟨m,g,k,hm,rfl,rfl,hg,hB,hX,hR,hS⟩:=hrel
  have zr:=hS.size
  have lx:bx < wr.heap.size:=by omega
  by_cases hlt:m < N
  ·obtain ⟨x,e1⟩:∃ x,xs[m]? = some x:=⟨_,List.getElem?_eq_getElem (by omega)⟩
   have d1:=hX.cell e1
   have hlt':(m:Int) < (N:Int):=by omega
   have hlen:(notsG gs (xs.take m)).length=gs.length + m:=by rw [notsG_length,List.length_take]; omega
   have HT:=hid (show notsG gs (xs.take (m + 1))=notsG gs (xs.take m) ++ [⟨5,x,0⟩] by unfold notsG; rw [take_snoc e1,List.map_append,List.append_assoc]; rfl)
   have H:=hid (And.intro hB (And.intro hX (And.intro hR hS)))
   clear hB hX hR hS e1
   go_wp2_with fail
   refine Calls.mono (sGate (n:=gs.length + m) _ _ _ _ H.out.1 hlen (by omega)) ?_
   rintro e w3 ⟨rfl,h,t⟩
   have z3:=t.size
   have HR3:=hid (t.row H.out.2.2.1 (by decide) (by decide))
   have H3:=hid (And.intro h (And.intro (H.out.2.1.stay t (by decide)) (H.out.2.2.2.trans t)))
   clear h t H d1
   go_wp2_with (at_builtin; refine app_int rfl _ _ rfl rfl (HR3.out.alloc _) [((gs.length + m:Nat):Int)] rfl rfl (top_cells _ [_] _) (by omega) ?_)
   intro g' k' w4 h1 h2 h3
   have h2:=grown_alloc h2
   have hg':w.heap.size≤g':=by (try simp at h3); omega
   have H4:=hid (And.intro (H3.out.1.grown h2 HR3.out (by decide)) (And.intro (H3.out.2.1.grown h2 (by omega)) (And.intro (row_eq (ys:=upW gs.length (m + 1)) h1 (by rw [upW]; first | rfl | simp)) (H3.out.2.2.grown h2 hg))))
   clear h1 h2 h3 H3 HR3
   go_wp2
   go_roundw
   case rel=>exact ⟨m + 1,g',k',by omega,by go_num,rfl,hg',bld_cast H4.out.1 HT.out.symm,H4.out.2.1,H4.out.2.2.1,H4.out.2.2.2⟩
   case measure=>simp [intOf]; omega
  ·obtain rfl:m=N:=by omega
   have hlt':¬ (m:Int) < (m:Int):=by omega
   have ht:xs.take m=xs:=by rw [←hxl,List.take_length]
   rw [ht] at hB
   have H:=hid (And.intro hB (And.intro hR hS))
   clear hB hX hR hS ht
   go_wp2
   go_returns
   exact ⟨g,k,rfl,hg,H.out.2.1,H.out.1,H.out.2.2⟩
open Go.RowKit
theorem cells_vals {w:World} {b t:Nat} {cs:Array Value} (h:Blk w b t cs):Cells w w.heap.size (some ⟨b,0,none⟩) cs.toList:=fun _ =>
 ⟨b,0,rfl,h.lt,fun i v hv=>by
  rw [Nat.zero_add,h.cell i]
  simpa using hv⟩
theorem words2 {w:World} {n bx ox cx bY oy cy:Nat} {xs ys:List Int} (hx:Wd w (some ⟨bx,ox,none⟩) xs) (hy:Wd w (some ⟨bY,oy,none⟩) ys) (h1:wordB4 n xs=true) (h2:wordB4 n ys=true) :
  WordsOk w n [.slice (some ⟨bx,ox,none⟩) 4 cx,.slice (some ⟨bY,oy,none⟩) 4 cy]:=fun j v h=>by
 match j,h with
 | 0,h=>injection h with h; exact ⟨bx,ox,cx,xs,h.symm,hx,h1⟩
 | 1,h=>injection h with h; exact ⟨bY,oy,cy,ys,h.symm,hy,h2⟩
theorem Touch.below' {L:List Nat} {w0 w w':World} {B:Nat} (h:Touch L w w') (h0:Below B w0 w) (hL:∀ i∈L,B≤i) (hB:B≤w.heap.size):Below B w0 w' :=
 ⟨h.os.trans h0.os,h.tape.trans h0.tape,h.output.trans h0.output,Nat.le_trans h0.size h.size,fun i hi=>(h.block i (by omega) (fun hm=>by have:=hL i hm; omega)).trans (h0.block i hi)⟩
def GivesW (w:World) (gs:List Gt) (ws:List Int) (e:Ending) (w':World):Prop :=
 ∃ G cg O co g k,e=.returned (.tuple #[.agg #[.slice G gs.length cg,.slice O 0 co],.slice (some ⟨g,0,none⟩) 4 k])∧w'.ownsRow w.heap.size TG 3 (.slice G gs.length cg) gs.length (ints (flatG gs)) ∧
  w'.ownsRow w.heap.size 3 1 (.slice O 0 co) 0 []∧w.heap.size≤g∧RowI w' g 4 k ws∧Below w.heap.size w w'
theorem gives_w {w wz w':World} {gs:List Gt} {ws:List Int} {G O:Option Addr} {n cg co g k p:Nat} (hn:gs.length=n) (h1:wz.ownsRow w.heap.size TG 3 (.slice G gs.length cg) gs.length (ints (flatG gs))) (h2:wz.ownsRow w.heap.size 3 1 (.slice O 0 co) 0 [])
  (h3:RowI wz g 4 k ws) (h4:Below w.heap.size w wz) (h5:w.heap.size≤g) {cs:Array Value} (hr:Blk wz p TS cs) (hp:w.heap.size≤p) (ht:Touch [p] wz w') :
  GivesW w gs ws (.returned (.tuple #[.agg #[.slice G n cg,.slice O 0 co],.slice (some ⟨g,0,none⟩) 4 k])) w':=by
 subst hn
 have hm:∀ q,q≠p→q ∉ [p]:=fun q h=>by simp [h]
 exact ⟨G,cg,O,co,g,k,rfl,own_touch' ht h1 (fun q hq=>hm q (own_ne_obj h1 hr (by decide) q hq)),own_touch' ht h2 (fun q hq=>hm q (own_ne_obj h2 hr (by decide) q hq)),h5,
  own_touch' ht h3 (fun q hq=>hm q (own_ne_obj h3 hr (by decide) q hq)),ht.below' h4 (fun i hi=>by simp at hi; omega) h4.size⟩
set_option linter.unusedVariables false in
set_option maxRecDepth 100000 in
set_option maxHeartbeats 800000 in
theorem iWordAdd {gs:List Gt} {G O:Option Addr} {cg co:Nat} {bx ox cx bY oy cy:Nat} {xs ys:List Int} (w:World) (hg:w.ownsRow 0 TG 3 (.slice G gs.length cg) gs.length (ints (flatG gs))) (ho:w.ownsRow 0 3 1 (.slice O 0 co) 0 (ints [])) (hok:gatesB 0 gs=true) (hl:gs.length≤5000)
  (hx:Wd w (some ⟨bx,ox,none⟩) xs) (hy:Wd w (some ⟨bY,oy,none⟩) ys) (hwx:wordB4 gs.length xs=true) (hwy:wordB4 gs.length ys=true) (hcx:4≤cx) :
  Calls Tryz.prog 160 #[.agg #[.slice G gs.length cg,.slice O 0 co],.slice (some ⟨bx,ox,none⟩) 4 cx,.slice (some ⟨bY,oy,none⟩) 4 cy] w (GivesW w (sumG gs xs ys 0 3) (sumW gs.length 3)):=by
 have HX:=hid (And.intro hx hy)
 have hx4:=(wordB4_at hwx).1
 have hy4:=(wordB4_at hwy).1
 clear hx hy
 go_enter Tryz.func160,Tryz.ntmps160
 have b_0:=(Below.refl w.heap.size w)
 have s_0:=b_0.size
 have og_in:=own_in hg
 have og_0:=hg
 clear hg
 have oo_in:=own_in ho
 have oo_0:=ho
 clear ho
 go_upto_region 1 with fail
 refine wp_forget2 (w0:=w) (B:=w.heap.size) (b0:=w.heap.size) (t0:=40) (c0:=#[.slice G gs.length cg,.slice O 0 co]) (b1:=w.heap.size + 1) (t1:=40) (c1:=#[.slice none 0 0,.slice none 0 0]) ?_ ?_ ?_ ?_
 (focus exact blkcBy)
 (focus exact blkcBy)
 (focus (exact belBy))
 intro w1 x_1 r_1 hX1
 have sX1:=hX1.size
 have x_lt:=x_1.lt
 have r_lt:=r_1.lt
 have b_1:=b_0.trans (hX1.mono (by omega))
 have og_1:=own_below og_0 hX1
 have oo_1:=own_below oo_0 hX1
 clear og_0 oo_0 b_0 hX1
 have cell_x:=x_1.cell
 have froz_x:=x_1.frozen
 have lt_x:=x_1.lt
 have cell_r:=r_1.cell
 have froz_r:=r_1.frozen
 have lt_r:=r_1.lt
 go_wp2_with fail
 refine calls_forget0 (W:=w1) ?_ ?_
 (focus (exact belBy))
 intro X2 hX2
 have sX2:=hX2.size
 refine (iCopyC _ _ _ _ _ _ (flatG gs) [] _ (own_below og_1 hX2) (own_below oo_1 hX2) (by omega) (by omega)).mono ?_
 rintro e w2 ⟨G',cg',O',co',rfl,pg_2,po_2,hb2⟩
 have s2:=hb2.size
 have hT2:=hX2.trans (hb2.mono sX2)
 have b_2:=b_1.trans (hT2.mono (by omega))
 have og_2:=own_below og_1 hT2
 have oo_2:=own_below oo_1 hT2
 have x_2:=Blk.past hT2 x_1
 have r_2:=Blk.past hT2 r_1
 have pg_in:=own_in pg_2
 have po_in:=own_in po_2
 clear og_1 oo_1 x_1 r_1 b_1 cell_x froz_x lt_x cell_r froz_r lt_r hX2 hT2 hb2
 have cell_x:=x_2.cell
 have froz_x:=x_2.frozen
 have lt_x:=x_2.lt
 have cell_r:=r_2.cell
 have froz_r:=r_2.frozen
 have lt_r:=r_2.lt
 go_upto_region 2 with fail
 refine wp_forget1 (w0:=w2) (B:=w2.heap.size) (b0:=w2.heap.size) (t0:=159) (c0:=#[.slice G' gs.length cg',.slice O' 0 co']) ?_ ?_ ?_
 (focus exact blkcBy)
 (focus (exact belBy))
 intro w3 u_3 hX3
 have sX3:=hX3.size
 have u_lt:=u_3.lt
 have b_3:=b_2.trans (hX3.mono (by omega))
 have og_3:=own_below og_2 hX3
 have oo_3:=own_below oo_2 hX3
 have pg_3:=own_below pg_2 hX3
 have po_3:=own_below po_2 hX3
 have x_3:=Blk.past hX3 x_2
 have r_3:=Blk.past hX3 r_2
 clear og_2 oo_2 pg_2 po_2 x_2 r_2 b_2 cell_x froz_x lt_x cell_r froz_r lt_r hX3
 have cell_x:=x_3.cell
 have froz_x:=x_3.frozen
 have lt_x:=x_3.lt
 have cell_r:=r_3.cell
 have froz_r:=r_3.frozen
 have lt_r:=r_3.lt
 have cell_u:=u_3.cell
 have froz_u:=u_3.frozen
 have lt_u:=u_3.lt
 go_wp2_with fail
 refine calls_forget1 (W:=w3) (b0:=w3.heap.size) (t0:=30) (c0:=#[.slice (some ⟨bx,ox,none⟩) 4 cx,.slice (some ⟨bY,oy,none⟩) 4 cy]) ?_ ?_ ?_
 (focus exact blkcBy)
 (focus (exact belBy))
 intro X4 q_n hX4
 have sX4:=hX4.size
 have q_lt:=q_n.lt
 refine (iIsWordOf G O _ cg co 2 2 gs [.slice (some ⟨bx,ox,none⟩) 4 cx,.slice (some ⟨bY,oy,none⟩) 4 cy] _ (Cells.of_own (own_below og_3 hX4)) hok (by omega) rfl (cells_vals q_n) (words2 (HX.out.1.below (b_3.trans (hX4.mono (by omega)))) (HX.out.2.below (b_3.trans (hX4.mono (by omega)))) hwx hwy) (by omega)).mono ?_
 rintro e w4 ⟨rfl,hb4⟩
 have s4:=hb4.size
 have hT4:=hX4.trans (hb4.mono sX4)
 have b_4:=b_3.trans (hT4.mono (by omega))
 have og_4:=own_below og_3 hT4
 have oo_4:=own_below oo_3 hT4
 have pg_4:=own_below pg_3 hT4
 have po_4:=own_below po_3 hT4
 have x_4:=Blk.past hT4 x_3
 have r_4:=Blk.past hT4 r_3
 have u_4:=Blk.past hT4 u_3
 have q_4:=Blk.past hb4 q_n
 clear og_3 oo_3 pg_3 po_3 x_3 r_3 u_3 b_3 cell_x froz_x lt_x cell_r froz_r lt_r cell_u froz_u lt_u q_n hX4 hT4 hb4
 have cell_x:=x_4.cell
 have froz_x:=x_4.frozen
 have lt_x:=x_4.lt
 have cell_r:=r_4.cell
 have froz_r:=r_4.frozen
 have lt_r:=r_4.lt
 have cell_u:=u_4.cell
 have froz_u:=u_4.frozen
 have lt_u:=u_4.lt
 have cell_q:=q_4.cell
 have froz_q:=q_4.frozen
 have lt_q:=q_4.lt
 clear cell_q froz_q lt_q
 clear q_4
 clear cell_x froz_x lt_x
 clear x_4
 clear og_4
 clear oo_4
 have HB:=hid (show Bld TI w4 w.heap.size w2.heap.size gs (.slice O' 0 co') from ⟨G',cg',u_4,by omega,own_weak pg_4 (by omega)⟩)
 have HR:=hid (And.intro r_4 (And.intro (own_weak (base':=w.heap.size) po_4 (by omega)) b_4))
 have zw:w.heap.size≤w4.heap.size:=b_4.size
 have zr:w.heap.size + 1 < w4.heap.size:=r_4.lt
 have HX4:=hid (And.intro (HX.out.1.below b_4) (HX.out.2.below b_4))
 clear pg_4 po_4 r_4 u_4 b_4 cell_r froz_r lt_r cell_u froz_u lt_u pg_in po_in
 go_wp2_with fail
 refine Calls.mono (iSum (n:=gs.length) 0 0 _ HB.out rfl (by omega) HX4.out.1 HX4.out.2 hx4 hy4 (by omega) hcx) ?_
 rintro e wz ⟨gz,kz,rfl,hgz0,hrow,hbl,hst⟩
 have hgz':w.heap.size≤gz:=by omega
 have hbl:Bld TI wz _ _ (sumG gs xs ys 0 3) _:=hbl
 have hrow:RowI wz gz 4 kz (sumW gs.length 3):=hrow
 have HZ:=hid (And.intro hbl (And.intro hrow hst))
 have zz:=hst.size
 clear hbl hrow hst
 obtain ⟨Az,cz,hu,hlo,hgz⟩:=HZ.out.1
 have cell_u:=hu.cell
 have froz_u:=hu.frozen
 have lt_u:=hu.lt
 have hr:=HZ.out.2.2.blk HR.out.1 (by decide) (by decide)
 have cell_r:=hr.cell
 have froz_r:=hr.frozen
 have lt_r:=hr.lt
 have hlz:(sumG gs xs ys 0 3).length=gs.length + 18:=by rw [sumG_length]
 have HF:=hid (And.intro hlz (And.intro hgz (And.intro (HZ.out.2.2.own HR.out.2.1 (by decide) (by decide)) (And.intro HZ.out.2.1 (And.intro (HR.out.2.2.trans (HZ.out.2.2.below zw)) hr)))))
 have hne:w2.heap.size≠w.heap.size + 1:=by omega
 rw [hlz] at cell_u
 clear hu hgz hr hlz
 go_wp2
 ((try simp only [Exit.inBlock,Exit.then]); apply bodyPost_ret0; focus ((try simp only [results,Tryz.results160]); (try go_simp); (try rfl)))
 exact gives_w HF.out.1 HF.out.2.1 HF.out.2.2.1 HF.out.2.2.2.1 HF.out.2.2.2.2.1 hgz' HF.out.2.2.2.2.2 (by omega) (by exact tchBy)
set_option linter.unusedVariables false in
set_option maxRecDepth 100000 in
set_option maxHeartbeats 800000 in
theorem iWordSub {gs:List Gt} {G O:Option Addr} {cg co:Nat} {bx ox cx bY oy cy:Nat} {xs ys:List Int} (w:World) (hg:w.ownsRow 0 TG 3 (.slice G gs.length cg) gs.length (ints (flatG gs))) (ho:w.ownsRow 0 3 1 (.slice O 0 co) 0 (ints [])) (hok:gatesB 0 gs=true) (hl:gs.length≤5000)
  (hx:Wd w (some ⟨bx,ox,none⟩) xs) (hy:Wd w (some ⟨bY,oy,none⟩) ys) (hwx:wordB4 gs.length xs=true) (hwy:wordB4 gs.length ys=true) (hcx:4≤cx) :
  Calls Tryz.prog 161 #[.agg #[.slice G gs.length cg,.slice O 0 co],.slice (some ⟨bx,ox,none⟩) 4 cx,.slice (some ⟨bY,oy,none⟩) 4 cy] w (GivesW w (sumG (notsG gs ys) xs (upW gs.length 4) 1 3) (sumW (gs.length + 4) 3)):=by
 have HX:=hid (And.intro hx hy)
 have hx4:=(wordB4_at hwx).1
 have hy4:=(wordB4_at hwy).1
 clear hx hy
 go_enter Tryz.func161,Tryz.ntmps161
 have b_0:=(Below.refl w.heap.size w)
 have s_0:=b_0.size
 have og_in:=own_in hg
 have og_0:=hg
 clear hg
 have oo_in:=own_in ho
 have oo_0:=ho
 clear ho
 go_upto_region 1 with fail
 refine wp_forget2 (w0:=w) (B:=w.heap.size) (b0:=w.heap.size) (t0:=40) (c0:=#[.slice G gs.length cg,.slice O 0 co]) (b1:=w.heap.size + 1) (t1:=40) (c1:=#[.slice none 0 0,.slice none 0 0]) ?_ ?_ ?_ ?_
 (focus exact blkcBy)
 (focus exact blkcBy)
 (focus (exact belBy))
 intro w1 x_1 r_1 hX1
 have sX1:=hX1.size
 have x_lt:=x_1.lt
 have r_lt:=r_1.lt
 have b_1:=b_0.trans (hX1.mono (by omega))
 have og_1:=own_below og_0 hX1
 have oo_1:=own_below oo_0 hX1
 clear og_0 oo_0 b_0 hX1
 have cell_x:=x_1.cell
 have froz_x:=x_1.frozen
 have lt_x:=x_1.lt
 have cell_r:=r_1.cell
 have froz_r:=r_1.frozen
 have lt_r:=r_1.lt
 go_wp2_with fail
 refine calls_forget0 (W:=w1) ?_ ?_
 (focus (exact belBy))
 intro X2 hX2
 have sX2:=hX2.size
 refine (iCopyC _ _ _ _ _ _ (flatG gs) [] _ (own_below og_1 hX2) (own_below oo_1 hX2) (by omega) (by omega)).mono ?_
 rintro e w2 ⟨G',cg',O',co',rfl,pg_2,po_2,hb2⟩
 have s2:=hb2.size
 have hT2:=hX2.trans (hb2.mono sX2)
 have b_2:=b_1.trans (hT2.mono (by omega))
 have og_2:=own_below og_1 hT2
 have oo_2:=own_below oo_1 hT2
 have x_2:=Blk.past hT2 x_1
 have r_2:=Blk.past hT2 r_1
 have pg_in:=own_in pg_2
 have po_in:=own_in po_2
 clear og_1 oo_1 x_1 r_1 b_1 cell_x froz_x lt_x cell_r froz_r lt_r hX2 hT2 hb2
 have cell_x:=x_2.cell
 have froz_x:=x_2.frozen
 have lt_x:=x_2.lt
 have cell_r:=r_2.cell
 have froz_r:=r_2.frozen
 have lt_r:=r_2.lt
 go_upto_region 2 with fail
 refine wp_forget1 (w0:=w2) (B:=w2.heap.size) (b0:=w2.heap.size) (t0:=159) (c0:=#[.slice G' gs.length cg',.slice O' 0 co']) ?_ ?_ ?_
 (focus exact blkcBy)
 (focus (exact belBy))
 intro w3 u_3 hX3
 have sX3:=hX3.size
 have u_lt:=u_3.lt
 have b_3:=b_2.trans (hX3.mono (by omega))
 have og_3:=own_below og_2 hX3
 have oo_3:=own_below oo_2 hX3
 have pg_3:=own_below pg_2 hX3
 have po_3:=own_below po_2 hX3
 have x_3:=Blk.past hX3 x_2
 have r_3:=Blk.past hX3 r_2
 clear og_2 oo_2 pg_2 po_2 x_2 r_2 b_2 cell_x froz_x lt_x cell_r froz_r lt_r hX3
 have cell_x:=x_3.cell
 have froz_x:=x_3.frozen
 have lt_x:=x_3.lt
 have cell_r:=r_3.cell
 have froz_r:=r_3.frozen
 have lt_r:=r_3.lt
 have cell_u:=u_3.cell
 have froz_u:=u_3.frozen
 have lt_u:=u_3.lt
 go_wp2_with fail
 refine calls_forget1 (W:=w3) (b0:=w3.heap.size) (t0:=30) (c0:=#[.slice (some ⟨bx,ox,none⟩) 4 cx,.slice (some ⟨bY,oy,none⟩) 4 cy]) ?_ ?_ ?_
 (focus exact blkcBy)
 (focus (exact belBy))
 intro X4 q_n hX4
 have sX4:=hX4.size
 have q_lt:=q_n.lt
 refine (iIsWordOf G O _ cg co 2 2 gs [.slice (some ⟨bx,ox,none⟩) 4 cx,.slice (some ⟨bY,oy,none⟩) 4 cy] _ (Cells.of_own (own_below og_3 hX4)) hok (by omega) rfl (cells_vals q_n) (words2 (HX.out.1.below (b_3.trans (hX4.mono (by omega)))) (HX.out.2.below (b_3.trans (hX4.mono (by omega)))) hwx hwy) (by omega)).mono ?_
 rintro e w4 ⟨rfl,hb4⟩
 have s4:=hb4.size
 have hT4:=hX4.trans (hb4.mono sX4)
 have b_4:=b_3.trans (hT4.mono (by omega))
 have og_4:=own_below og_3 hT4
 have oo_4:=own_below oo_3 hT4
 have pg_4:=own_below pg_3 hT4
 have po_4:=own_below po_3 hT4
 have x_4:=Blk.past hT4 x_3
 have r_4:=Blk.past hT4 r_3
 have u_4:=Blk.past hT4 u_3
 have q_4:=Blk.past hb4 q_n
 clear og_3 oo_3 pg_3 po_3 x_3 r_3 u_3 b_3 cell_x froz_x lt_x cell_r froz_r lt_r cell_u froz_u lt_u q_n hX4 hT4 hb4
 have cell_x:=x_4.cell
 have froz_x:=x_4.frozen
 have lt_x:=x_4.lt
 have cell_r:=r_4.cell
 have froz_r:=r_4.frozen
 have lt_r:=r_4.lt
 have cell_u:=u_4.cell
 have froz_u:=u_4.frozen
 have lt_u:=u_4.lt
 have cell_q:=q_4.cell
 have froz_q:=q_4.frozen
 have lt_q:=q_4.lt
 clear cell_q froz_q lt_q
 clear q_4
 clear cell_x froz_x lt_x
 clear x_4
 clear og_4
 clear oo_4
 have HB:=hid (show Bld TI w4 w.heap.size w2.heap.size gs (.slice O' 0 co') from ⟨G',cg',u_4,by omega,own_weak pg_4 (by omega)⟩)
 have HR:=hid (And.intro r_4 (And.intro (own_weak (base':=w.heap.size) po_4 (by omega)) b_4))
 have zw:w.heap.size≤w4.heap.size:=b_4.size
 have zr:w.heap.size + 1 < w4.heap.size:=r_4.lt
 have HX4:=hid (And.intro (HX.out.1.below b_4) (HX.out.2.below b_4))
 clear pg_4 po_4 r_4 u_4 b_4 cell_r froz_r lt_r cell_u froz_u lt_u pg_in po_in
 go_wp2_with fail
 refine Calls.mono (iNots (n:=gs.length) _ HB.out rfl (by omega) HX4.out.2 hy4 (by omega)) ?_
 rintro e w5 ⟨g5,k5,rfl,hg5,hrow,hbl,hst⟩
 have z5:=hst.size
 have H5:=hid (And.intro hbl (And.intro (Wd.of_row hrow) (And.intro (HX4.out.1.stay hst (by decide)) hst)))
 clear hbl hrow hst
 go_wp2_with fail
 refine Calls.mono (iSum (n:=gs.length + 4) 1 0 _ H5.out.1 (by rw [notsG_length,hy4]) (by omega) H5.out.2.2.1 H5.out.2.1 hx4 (upW_length _ _) (by omega) hcx) ?_
 rintro e wz ⟨gz,kz,rfl,hgz0,hrow,hbl,hst⟩
 have hgz':w.heap.size≤gz:=by omega
 have hbl:Bld TI wz _ _ (sumG (notsG gs ys) xs (upW gs.length 4) 1 3) _:=hbl
 have hrow:RowI wz gz 4 kz (sumW (gs.length + 4) 3):=hrow
 have HZ:=hid (And.intro hbl (And.intro hrow (H5.out.2.2.2.trans hst)))
 have zz:=hst.size
 clear hbl hrow hst
 obtain ⟨Az,cz,hu,hlo,hgz⟩:=HZ.out.1
 have cell_u:=hu.cell
 have froz_u:=hu.frozen
 have lt_u:=hu.lt
 have hr:=HZ.out.2.2.blk HR.out.1 (by decide) (by decide)
 have cell_r:=hr.cell
 have froz_r:=hr.frozen
 have lt_r:=hr.lt
 have hlz:(sumG (notsG gs ys) xs (upW gs.length 4) 1 3).length=gs.length + 22:=by rw [sumG_length,notsG_length,hy4]
 have HF:=hid (And.intro hlz (And.intro hgz (And.intro (HZ.out.2.2.own HR.out.2.1 (by decide) (by decide)) (And.intro HZ.out.2.1 (And.intro (HR.out.2.2.trans (HZ.out.2.2.below zw)) hr)))))
 have hne:w2.heap.size≠w.heap.size + 1:=by omega
 rw [hlz] at cell_u
 clear hu hgz hr hlz
 go_wp2
 ((try simp only [Exit.inBlock,Exit.then]); apply bodyPost_ret0; focus ((try simp only [results,Tryz.results161]); (try go_simp); (try rfl)))
 exact gives_w HF.out.1 HF.out.2.1 HF.out.2.2.1 HF.out.2.2.2.1 HF.out.2.2.2.2.1 hgz' HF.out.2.2.2.2.2 (by omega) (by exact tchBy)
open Go.RowKit
theorem getD_at {xs:List Int} {k:Nat} {x:Int} (h:xs[k]? = some x):xs.getD k 0=x:=by
 rw [List.getD_eq_getElem?_getD,h]
 rfl
theorem nib_and {n:Int} (h0:0≤n) (h1:n≤15) (m:Nat):bits .and .i64 (n / 2 ^ m) 1=n / (2 ^ m:Nat) % 2:=by
 obtain ⟨N,rfl⟩:∃ N:Nat,n=N:=⟨n.toNat,by omega⟩
 have e:(N:Int) / 2 ^ m=((N / 2 ^ m:Nat):Int):=by simp
 have e2:(N:Int) / (2 ^ m:Nat)=((N / 2 ^ m:Nat):Int):=by simp
 have hl:N / 2 ^ m≤N:=Nat.div_le_self _ _
 rw [e,e2,show (1:Int)=((1:Nat):Int) from rfl,and_nat _ _ (by omega) (by omega),Nat.and_one_is_mod]
 simp
set_option linter.unusedVariables false in
set_option maxRecDepth 100000 in
set_option maxHeartbeats 3200000 in
theorem sConst {lo bp:Nat} {gs:List Gt} {O:Value} (n:Int) (w:World) (h:Bld TS w lo bp gs O) (hs:gs.length≤50000) (hn:0≤n∧n≤15) :
  Calls Tryz.prog 60 #[.pointer (some ⟨bp,0,none⟩),.int .i64 n] w fun e w'=>∃ g k,e=.returned (.slice (some ⟨g,0,none⟩) 4 k)∧w.heap.size≤g∧RowI w' g 4 k (upW gs.length 4)∧Bld TS w' lo bp (constTo gs n 4) O∧Stay TS lo w w':=by
 have H0:=hid h
 clear h
 go_enter Tryz.func60,Tryz.ntmps60
 go_upto_region 2 with fail
 obtain ⟨w9,hw9⟩:∃ w9,w9=w.alloc (.cells #[] 3):=⟨_,rfl⟩
 have hb:Below w.heap.size w w9:=by rw [hw9]; exact (Below.refl _ _).alloc (Nat.le_refl _) _
 have ho9:RowI w9 w.heap.size 0 0 []:=by rw [hw9]; exact Row.new #[] (Nat.zero_le _) rfl rfl
 rw [←hw9]
 have H9:=hid (And.intro ((H0.out).below hb) (And.intro (ho9) ((Stay.of_below (T:=TS) (lo:=lo) hb))))
 have hbk:=(H0.out).len
 clear ho9 hb hw9
 go_wp2_with fail
 go_loopw [5,6] (fun o i wr=>∃ (m g k:Nat),m≤4∧i=.int .i64 (m:Int)∧o=.slice (some ⟨g,0,none⟩) m k∧w.heap.size≤g∧Bld TS wr lo bp (constTo gs n m) O∧RowI wr g m k (upW gs.length m)∧Stay TS lo w wr) (fun _ i _=>4 - (intOf i).toNat)
 case atStart=>exact ⟨0,w.heap.size,0,Nat.zero_le _,rfl,rfl,Nat.le_refl _,H9.out.1,H9.out.2.1,H9.out.2.2⟩
 case round =>
  clear H9
  obtain ⟨m,g,k,hm,rfl,rfl,hg,hB,hR,hS⟩:=hrel
  have zr:=hS.size
  by_cases hlt:m < 4
  ·have hlt':(m:Int) < 4:=by omega
   have hlen:(constTo gs n m).length=gs.length + m:=constTo_length _ _ _
   obtain ⟨N1,hN1⟩:∃ N,gs.length + m=N:=⟨_,rfl⟩
   rw [hN1] at hlen
   have HT:=hid (show constTo gs n (m + 1)=constTo gs n m ++ [⟨2,n / (2 ^ m:Nat) % 2,0⟩] from rfl)
   have hB0:=hB
   have H:=hid (And.intro (hB) (And.intro (hR) (hS)))
   clear hB hR hS
   go_wp2_with fail
   refine Calls.mono (sGate (n:=N1) _ _ _ _ (Bld.heap hB0 rfl) hlen (by omega)) ?_
   rintro e w7 ⟨rfl,h,t⟩
   have z3:=t.size
   have hS3:=H.out.2.2.onto t rfl rfl rfl rfl
   have zs3:=hS3.size
   have HR3:=hid (Row.onto H.out.2.1 t rfl (by decide) (by decide))
   have H3:=hid (And.intro (h) (hS3))
   clear h t hS3 hB0 H
   go_wp2_with (at_builtin; refine app_int rfl _ _ rfl rfl (HR3.out.alloc _) [((N1 + 0:Nat):Int)] rfl rfl (top_cells _ [_] _) (by omega) ?_)
   intro g' k' w8 h1 h2 h3
   have h2:=grown_alloc h2
   have hg':w.heap.size≤g':=by (try simp at h3); omega
   have H8:=hid (And.intro ((bld_cast (gs':=constTo gs n (m + 1)) (H3.out.1.grown h2 HR3.out (by decide)) (by rw [HT.out,nib_and hn.1 hn.2]))) (And.intro ((row_eq (ys:=upW gs.length (m + 1)) h1 (by first | (rw [upW,←hN1]; done) | (rw [upW,←hN1]; simp)))) ((H3.out.2.grown h2 (by omega)))))
   clear h1 h2 h3 H3 HR3
   go_wp2
   go_roundw
   case rel=>exact ⟨m + 1,g',k',by omega,by go_num,rfl,hg',H8.out.1,H8.out.2.1,H8.out.2.2⟩
   case measure=>simp [intOf]; omega
  ·obtain rfl:m=4:=by omega
   have H:=hid (And.intro hB (And.intro hR hS))
   clear hB hR hS
   go_wp2
   go_returns
   exact ⟨g,k,rfl,hg,H.out.2.1,H.out.1,H.out.2.2⟩
open Go.RowKit
def nibB (x:Int):Bool:=inB x 0 15
set_option linter.unusedVariables false in
set_option maxRecDepth 100000 in
theorem iNibs (A:Option Addr) (c:Nat) (xs:List Int) (w:World) (hc:Cells w w.heap.size A (ints xs)) (hn:xs.length≤1000000000) :
  Calls Tryz.prog 92 #[.slice A xs.length c] w fun e w'=>e=.returned (.bool (xs.all nibB))∧w=w':=by
 go_enter Tryz.func92,Tryz.ntmps92
 go_wp2
 go_loop [4,7] (fun _ i=>∃ j:Nat,j≤xs.length∧i=.int .i64 j∧(xs.take j).all nibB=true) (fun _ i=>xs.length - (intOf i).toNat)
 case atStart=>exact ⟨0,Nat.zero_le _,rfl,rfl⟩
 case round =>
  obtain ⟨j,hj,rfl,hall⟩:=hrel
  by_cases hlt:j < xs.length
  ·obtain ⟨x,hx1⟩:∃ x,xs[j]? = some x:=⟨_,List.getElem?_eq_getElem hlt⟩
   obtain ⟨b,off,rfl,hB,hcl⟩:=hc (by rw [ints_length]; omega)
   have hcell:w.cell? ⟨b,off + j,none⟩=some (.int .i64 x):=hcl j _ (ints_get hx1)
   have HW:=hid (fun w=>iWithin x 0 15 w)
   cases hr:nibB x
   ·have HN:=hid (all_no hx1 hr)
    have hin:inB x 0 15=false:=hr
    rw [hin] at HW
    clear hcl hc hx1 hall hr hin
    go_wp2_with (go_at_call 56; refine (HW.out _).mono ?_; rintro e w' ⟨rfl,rfl⟩)
    go_ret
    exact ⟨by rw [HN.out]; rfl,rfl⟩
   ·have HA:=hid (all_snoc hx1 hall hr)
    have hin:inB x 0 15=true:=hr
    rw [hin] at HW
    clear hcl hc hx1 hall hr hin
    go_wp2_with (go_at_call 56; refine (HW.out _).mono ?_; rintro e w' ⟨rfl,rfl⟩)
    go_round
    case rel=>exact ⟨j + 1,by omega,by go_num,HA.out⟩
    case measure=>simp [intOf]; omega
  ·obtain rfl:j=xs.length:=by omega
   rw [List.take_length] at hall
   have HA:=hid hall
   clear hall
   go_wp2
   go_ret
   exact ⟨by rw [HA.out]; rfl,rfl⟩
theorem iNib1 (a:Int) (c b:Nat) (w:World) (h:Blk w b 3 #[.int .i64 a]) (ha:0≤a∧a≤15) :
  Calls Tryz.prog 92 #[.slice (some ⟨b,0,none⟩) 1 c] w fun e w'=>e=.returned (.bool true)∧w=w':=by
 have h:=iNibs (some ⟨b,0,none⟩) c [a] w (cells_blk h) (by simp)
 have e:([a].all nibB)=true:=by simp [nibB,inB_iff.2 ha]
 rw [e] at h
 exact h
open Go.RowKit
theorem app_int_step {w:World} {ops:Array Oper} {o:Oper} {a:Act} {K:Act→World→Prop} {Q:Exit→Act→World→Prop} {E:Prop} (hgd:o.guard=none) (s x:Operand) (ho:o.op=.call { callee:=.builtin .append,args:=#[s,x],argTypes:=#[30,30] })
  {g n c:Nat} {L:List Int} (hs:a.eval s=.slice (some ⟨g,0,none⟩) n c) (hown:RowI w g n c L) {b off m k:Nat} (M:List Int) (hx:a.eval x=.slice (some ⟨b,off,none⟩) m k) (hl:M.length=m)
  (hc:∀ j u,(ints M)[j]? = some u→w.cell? ⟨b,off + j,none⟩=some u) (hm:0 < m) (hb:n + m≤1000000)
  (h:∀ g' c' w',RowI w' g' (n + m) c' (L ++ M)→w.grownBy w' (some g)→(g'=g∨g'=w.heap.size)→K (a.put o.dst (.slice (some ⟨g',0,none⟩) (n + m) c')) w') :
  if Region.wanted o (yielded ops a.tmps)=true then Oper.wp Tryz.prog o a w K Q else E:=by
 obtain ⟨i,hi,hz0,hz1,hz2⟩:=info_parts infoI
 refine step_append_lies w hgd s x _ ho 0 _ i _ 1 8 Tryz.underlying30 hi hz0 hz1 hz2 rfl (by decide) _ n (ints L) hs hown ⟨b,off,none⟩ m k (ints M) hx (by rw [ints_length,hl,Nat.mul_one]) (cells_add hc) (ints_one _) hm (by unfold maxLen; omega) (by omega) (Nat.zero_le _) _ rfl ?_
 intro g' c' w' h1 h2 h3 _
 refine h g' c' w' (by show Row _ _ _ _ _ _ _; rw [ints_app]; exact h1) h2 ?_
 rcases h3 with h3 | h3
 ·injection h3 with h3
  exact .inl h3.symm
 ·exact .inr h3
end Go.Proofs.YtihbaieiempjeaaGreat
