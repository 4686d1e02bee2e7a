/- Lemmas of the proof: Trans, Trans2, Trans3. -/
import Derived.Test.YtihbaieiempjeaaGreatA0
import Derived.Test.YtihbaieiempjeaaGreatA2
import Derived.Deep.RegionHeld3
import Derived.Deep.DeepCutAuto
import Derived.BigQuiet
namespace Go.Proofs.YtihbaieiempjeaaGreat
open Go.RowKit
set_option maxHeartbeats 1600000 in
theorem iInputLabels (s a:Int) (A:Option Addr) (c:Nat) (bs:List Int) (w:World) (h1:tapeOkB s a=true) (h2:a≤900000) (hb:bitsB bs=true) (hl:bs.length≤80) (hc:Cells w w.heap.size A (ints bs)) :
  Calls Tryz.prog 94 #[.agg #[.int .i64 s,.int .i64 a],.slice A bs.length c] w (GivesInts w (labsTo s a bs bs.length)):=by
 have h3:decide (900000 < a)=false:=by simp; omega
 have h4:decide (80 < (bs.length:Int))=false:=by simp; omega
 have HD:=hid (fun w=>iDeltaOf s a w h1 h2)
 have HZ:=hid (fun k w h=>iInputZero s a k w h1 h)
 have HBI:=hid (fun (k:Nat) (x:Int) (h:bs[k]? = some x)=>bitsB_get hb h)
 have HBS:=hid (fun w hc=>iBits A c bs w hc (by omega))
 rw [hb] at HBS
 have HC:=hid hc
 clear h2 hb hc
 have hq0:=HC.out
 go_enter Tryz.func94,Tryz.ntmps94
 have b_0:=(Below.refl w.heap.size w)
 have s_0:=b_0.size
 have q_0:=hq0
 clear hq0
 go_wp2_with fail
 refine calls_forget1 (W:=w) (b0:=w.heap.size) (t0:=27) (c0:=#[.int .i64 s,.int .i64 a]) ?_ ?_ ?_
 (focus exact blkcBy)
 (focus (exact belBy))
 intro X1 t_n hX1
 have sX1:=hX1.size
 have t_lt:=t_n.lt
 refine (iTapeOk _ _ _).mono ?_
 rintro e w1 ⟨rfl,hb1⟩
 have s1:=hb1.size
 have hT1:=hX1.trans (hb1.mono sX1)
 have b_1:=b_0.trans (hT1.mono (by omega))
 have q_1:=cells_below q_0 hT1 (by omega)
 have t_1:=Blk.past hb1 t_n
 clear q_0 b_0 t_n hX1 hT1 hb1
 have cell_t:=t_1.cell
 have froz_t:=t_1.frozen
 have lt_t:=t_1.lt
 go_wp2_with fail
 refine calls_forget0 (W:=w1) ?_ ?_
 (focus (exact belBy))
 intro X2 hX2
 have sX2:=hX2.size
 refine (HBS.out _ ((cells_below q_1 hX2 (by omega)).more (by omega))).mono ?_
 rintro e w' ⟨rfl,rfl⟩
 have b_2:=b_1.trans (hX2.mono (by omega))
 have q_2:=cells_below q_1 hX2 (by omega)
 have t_2:=Blk.past hX2 t_1
 clear q_1 t_1 b_1 cell_t froz_t lt_t hX2
 have cell_t:=t_2.cell
 have froz_t:=t_2.frozen
 have lt_t:=t_2.lt
 go_wp2_with fail
 refine calls_forget0 (W:=X2) ?_ ?_
 (focus (exact belBy))
 intro X3 hX3
 have sX3:=hX3.size
 refine (HD.out _).mono ?_
 rintro e w3 ⟨rfl,hb3⟩
 have s3:=hb3.size
 have hT3:=hX3.trans (hb3.mono sX3)
 have b_3:=b_2.trans (hT3.mono (by omega))
 have q_3:=cells_below q_2 hT3 (by omega)
 have t_3:=Blk.past hT3 t_2
 clear q_2 t_2 b_2 cell_t froz_t lt_t hX3 hT3 hb3
 have cell_t:=t_3.cell
 have froz_t:=t_3.frozen
 have lt_t:=t_3.lt
 have HT:=hid t_3
 have HB:=hid b_3
 clear t_3 b_3 q_3
 go_wp2
 go_loopw [7,8,9,36] (fun o _ _ i wr=>∃ (j:Nat) (A':Option Addr) (c':Nat),j≤bs.length∧i=.int .i64 j∧o=.slice A' j c'∧wr.ownsRow (w.heap.size + 1) 3 1 (.slice A' j c') j (ints (labsTo s a bs j))∧Blk wr w.heap.size 27 #[.int .i64 s,.int .i64 a]∧Below w.heap.size w wr) (fun _ _ _ i _=>bs.length - (intOf i).toNat)
 case atStart=>exact ⟨0,some ⟨w3.heap.size + 1,0,none⟩,0,Nat.zero_le _,rfl,rfl,own_lit (size:=1) #[] 0 (by simp) (by simp; omega) (Nat.zero_le _) rfl,by have h:=HT.out; exact blkcBy,by have h:=HB.out; exact belBy⟩
 case round =>
  obtain ⟨j,A',c',hj,rfl,rfl,hown,ht,hb⟩:=hrel
  by_cases hlt:j < bs.length
  ·obtain ⟨x,hx⟩:∃ x,bs[j]? = some x:=⟨_,List.getElem?_eq_getElem hlt⟩
   obtain ⟨b,off,rfl,hB,hcl⟩:=HC.out (by rw [ints_length]; omega)
   have hcell:wr.cell? ⟨b,off + j,none⟩=some (.int .i64 x):=(hb.cell (p:=⟨b,off + j,none⟩) hB).trans (hcl j _ (ints_get hx))
   have HX:=hid (labsTo_succ (s:=s) (a:=a) hx)
   have hbit:=HBI.out j x hx
   have HBIT:=hid hbit
   clear hcl hx hbit
   have b_10:=hb
   have s_10:=b_10.size
   have o_in:=own_in hown
   have o_10:=hown
   clear hown
   have t_10:=ht
   clear ht
   have t_lt:=t_10.lt
   have cell_t:=t_10.cell
   have froz_t:=t_10.frozen
   have lt_t:=t_10.lt
   go_wp2_with fail
   refine calls_forget0 (W:=wr) ?_ ?_
   (focus (exact belBy))
   intro X11 hX11
   have sX11:=hX11.size
   refine (HZ.out _ _ (inB_iff.2 (by omega))).mono ?_
   rintro e w11 ⟨rfl,hb11⟩
   have s11:=hb11.size
   have hT11:=hX11.trans (hb11.mono sX11)
   have b_11:=b_10.trans (hT11.mono (by omega))
   have o_11:=own_below o_10 hT11
   have t_11:=Blk.past hT11 t_10
   clear o_10 t_10 b_10 cell_t froz_t lt_t hX11 hT11 hb11
   have cell_t:=t_11.cell
   have froz_t:=t_11.frozen
   have lt_t:=t_11.lt
   go_wp2_with fail
   refine calls_forget0 (W:=w11) ?_ ?_
   (focus (exact belBy))
   intro X12 hX12
   have sX12:=hX12.size
   refine (iLabelFor _ _ _ _ (zero_label _ _) (delta_label _ _) HBIT.out).mono ?_
   rintro e w12 ⟨rfl,hb12⟩
   have s12:=hb12.size
   have hT12:=hX12.trans (hb12.mono sX12)
   have b_12:=b_11.trans (hT12.mono (by omega))
   have o_12:=own_below o_11 hT12
   have t_12:=Blk.past hT12 t_11
   clear o_11 t_11 b_11 cell_t froz_t lt_t hX12 hT12 hb12
   have cell_t:=t_12.cell
   have froz_t:=t_12.frozen
   have lt_t:=t_12.lt
   go_wp2_with (at_builtin; refine wpList_appi rfl _ _ 30 rfl (w.heap.size + 1) 3 (.int .i64 0) 1 8 Tryz.underlying30 infoInt rfl (by decide) _ j _ rfl (o_12.alloc _) ⟨w12.heap.size,0,none⟩ 1 1 _ rfl rfl (one_new _ _ _) (one_one _) (by omega) (by decide) (by simp; omega) ?_)
   intro A_o c_o w13 o_13 hg13 li13
   have hg13:=grown_alloc hg13
   try simp only [World.size_alloc] at li13
   have s13:=hg13.size
   have b_13:=gr_below hg13 b_12 (by omega) (fun q hq=>by have h1:=o_in q hq; omega)
   have t_13:=gr_blk hg13 t_12 (fun q hq=>by have h1:=o_in q hq; omega)
   have o_ix:=own_in o_13
   clear o_12 t_12 b_12 cell_t froz_t lt_t hg13 li13 o_in
   have o_in:=o_ix
   clear o_ix
   have cell_t:=t_13.cell
   have froz_t:=t_13.frozen
   have lt_t:=t_13.lt
   rw [←ints_snoc,←HX.out] at o_13
   have HO:=hid o_13
   have HT2:=hid t_13
   have HB2:=hid b_13
   clear o_13 t_13 b_13 cell_t froz_t
   go_wp2
   go_roundw
   case rel=>exact ⟨j + 1,A_o,c_o,by omega,by go_num,rfl,HO.out,HT2.out,HB2.out⟩
   case measure=>simp [intOf]; omega
  ·obtain rfl:j=bs.length:=by omega
   have HO:=hid hown
   have HB2:=hid hb
   clear hown ht hb
   go_wp2
   go_ret
   have el:(labsTo s a bs bs.length).length=bs.length:=labsTo_length _ _ _ _
   unfold GivesInts
   rw [el]
   exact ⟨A',c',rfl,own_weak HO.out (by omega),HB2.out⟩
set_option maxHeartbeats 1600000 in
theorem sInputLabels (s a:Int) (A:Option Addr) (c:Nat) (bs:List Int) (w:World) (h1:tapeOkB s a=true) (h2:a≤900000) (hb:bitsB bs=true) (hl:bs.length≤80) (hc:Cells w w.heap.size A (ints bs)) :
  Calls Tryz.prog 69 #[.agg #[.int .i64 s,.int .i64 a],.slice A bs.length c] w (GivesInts w (labsTo s a bs bs.length)):=by
 have h3:(tapeOkB s a && decide (a≤900000))=true:=by simp [h1,h2]
 have h4:decide (80 < (bs.length:Int))=false:=by simp; omega
 have HD:=hid (fun w=>sDeltaOf s a w h1 h2)
 have HZ:=hid (fun k w h=>sInputZero s a k w h1 h)
 have HL:=hid (fun w=>s_l06 s a w)
 rw [h3] at HL
 have HBI:=hid (fun (k:Nat) (x:Int) (h:bs[k]? = some x)=>bitsB_get hb h)
 have HBS:=hid (fun w hc=>sBits A c bs bs.length w hc (by omega))
 rw [hb,show (true && ((bs.length:Int) == (bs.length:Int)))=true by simp] at HBS
 have HC:=hid hc
 clear h2 hb hc h3
 go_enter Tryz.func69,Tryz.ntmps69
 go_upto_region 2 with fail
 obtain ⟨W1,hW1⟩:∃ W1,W1=(w.alloc (.cells #[.int .i64 s,.int .i64 a] 27)).alloc (.cells #[] 3):=⟨_,rfl⟩
 have ho:W1.ownsRow (w.heap.size + 1) 3 1 (.slice (some ⟨w.heap.size + 1,0,none⟩) 0 0) 0 (ints []):=by rw [hW1]; exact own_lit (size:=1) #[] 0 (by simp) (by simp) (Nat.zero_le _) rfl
 have ht:Blk W1 w.heap.size 27 #[.int .i64 s,.int .i64 a]:=by rw [hW1]; exact blkcBy
 have hb1:Below w.heap.size w W1:=by rw [hW1]; exact belBy
 have hq0:=(HC.out.below hb1).more hb1.size
 rw [←hW1]
 clear hW1
 have b_0:=hb1
 have s_0:=b_0.size
 have q_0:=hq0
 clear hq0
 have o_in:=own_in ho
 have o_0:=ho
 clear ho
 have t_0:=ht
 clear ht
 have t_lt:=t_0.lt
 have cell_t:=t_0.cell
 have froz_t:=t_0.frozen
 have lt_t:=t_0.lt
 go_wp2_with fail
 refine calls_forget0 (W:=W1) ?_ ?_
 (focus (exact belBy))
 intro X1 hX1
 have sX1:=hX1.size
 refine (HL.out _).mono ?_
 rintro e w1 ⟨rfl,hb1⟩
 have s1:=hb1.size
 have hT1:=hX1.trans (hb1.mono sX1)
 have b_1:=b_0.trans (hT1.mono (by omega))
 have q_1:=cells_below q_0 hT1 (by omega)
 have o_1:=own_below o_0 hT1
 have t_1:=Blk.past hT1 t_0
 clear q_0 o_0 t_0 b_0 cell_t froz_t lt_t hX1 hT1 hb1
 have cell_t:=t_1.cell
 have froz_t:=t_1.frozen
 have lt_t:=t_1.lt
 go_wp2_with fail
 refine calls_forget0 (W:=w1) ?_ ?_
 (focus (exact belBy))
 intro X2 hX2
 have sX2:=hX2.size
 refine (HBS.out _ ((cells_below q_1 hX2 (by omega)).more (by omega))).mono ?_
 rintro e w' ⟨rfl,rfl⟩
 have b_2:=b_1.trans (hX2.mono (by omega))
 have q_2:=cells_below q_1 hX2 (by omega)
 have o_2:=own_below o_1 hX2
 have t_2:=Blk.past hX2 t_1
 clear q_1 o_1 t_1 b_1 cell_t froz_t lt_t hX2
 have cell_t:=t_2.cell
 have froz_t:=t_2.frozen
 have lt_t:=t_2.lt
 go_wp2_with fail
 refine calls_forget0 (W:=X2) ?_ ?_
 (focus (exact belBy))
 intro X3 hX3
 have sX3:=hX3.size
 refine (HD.out _).mono ?_
 rintro e w3 ⟨rfl,hb3⟩
 have s3:=hb3.size
 have hT3:=hX3.trans (hb3.mono sX3)
 have b_3:=b_2.trans (hT3.mono (by omega))
 have q_3:=cells_below q_2 hT3 (by omega)
 have o_3:=own_below o_2 hT3
 have t_3:=Blk.past hT3 t_2
 clear q_2 o_2 t_2 b_2 cell_t froz_t lt_t hX3 hT3 hb3
 have cell_t:=t_3.cell
 have froz_t:=t_3.frozen
 have lt_t:=t_3.lt
 have HT:=hid t_3
 have HB:=hid b_3
 have HO:=hid o_3
 clear t_3 b_3 q_3 o_3
 go_wp2
 go_loopw [5,8] (fun o i wr=>∃ (j:Nat) (A':Option Addr) (c':Nat),j≤bs.length∧i=.int .i64 j∧o=.slice A' j c'∧wr.ownsRow (w.heap.size + 1) 3 1 (.slice A' j c') j (ints (labsTo s a bs j))∧Blk wr w.heap.size 27 #[.int .i64 s,.int .i64 a]∧Below w.heap.size w wr) (fun _ i _=>bs.length - (intOf i).toNat)
 case atStart=>exact ⟨0,some ⟨w.heap.size + 1,0,none⟩,0,Nat.zero_le _,rfl,rfl,by have h:w3.ownsRow (w.heap.size + 1) 3 1 (.slice (some ⟨w.heap.size + 1,0,none⟩) 0 0) 0 (ints (labsTo s a bs 0)):=HO.out; exact ownBy,by have h:=HT.out; exact blkcBy,by have h:=HB.out; exact belBy⟩
 case round =>
  obtain ⟨j,A',c',hj,rfl,rfl,hown,ht,hb⟩:=hrel
  by_cases hlt:j < bs.length
  ·obtain ⟨x,hx⟩:∃ x,bs[j]? = some x:=⟨_,List.getElem?_eq_getElem hlt⟩
   obtain ⟨b,off,rfl,hB,hcl⟩:=HC.out (by rw [ints_length]; omega)
   have hcell:wr.cell? ⟨b,off + j,none⟩=some (.int .i64 x):=(hb.cell (p:=⟨b,off + j,none⟩) hB).trans (hcl j _ (ints_get hx))
   have HX:=hid (labsTo_succ (s:=s) (a:=a) hx)
   have hbit:=HBI.out j x hx
   have HBIT:=hid hbit
   have zr:=hb.size
   clear hcl hx hbit
   have b_10:=hb
   have s_10:=b_10.size
   have o_in:=own_in hown
   have o_10:=hown
   clear hown
   have t_10:=ht
   clear ht
   have t_lt:=t_10.lt
   have cell_t:=t_10.cell
   have froz_t:=t_10.frozen
   have lt_t:=t_10.lt
   have q_10:=hcell
   clear hcell
   have lt_q:b < wr.heap.size:=by omega
   go_wp2_with fail
   go_region_held3 (fun w'=>w'.cell? ⟨w.heap.size,0,none⟩=some (.int .i64 s)∧w'.cell? ⟨w.heap.size,1,none⟩=some (.int .i64 a)∧w'.cell? ⟨b,off + j,none⟩=some (.int .i64 x)) ((refine ⟨(Blk.cell (t:=27) (cs:=#[.int .i64 s,.int .i64 a]) ?qt 0),(Blk.cell ?qt 1),(by first | ((repeat (first | (with_reducible assumption) | (with_reducible refine cell_drew ?_) | (with_reducible refine cell_alloc ?_ (by first | (dsimp only; omega) | (simp; omega))) | (with_reducible refine cell_far ?_ (by first | (dsimp only; omega) | (simp; omega))))); done) | exact cell_kept q_10 (by exact belBy) (by dsimp only; omega))⟩; (case qt=>(exact blkBy)))) (first | (go_at_call 137; refine calls_forget0 (W:=wr) ?_ ?_; (focus (exact belBy)); intro X11 hX11; have sX11:=hX11.size; refine (HZ.out _ _ (inB_iff.2 (by omega))).mono ?_; rintro e w11 ⟨rfl,hb11⟩; have s11:=hb11.size; have hT11:=hX11.trans (hb11.mono sX11); have b_11:=b_10.trans (hT11.mono (by omega)); have o_11:=own_below o_10 hT11; have t_11:=Blk.past hT11 t_10; have q_11:=cell_kept q_10 hT11 (by dsimp only; omega); clear o_10 t_10 q_10 b_10 cell_t froz_t lt_t lt_q hX11 hT11 hb11; have cell_t:=t_11.cell; have froz_t:=t_11.frozen; have lt_t:=t_11.lt; have lt_q:b < w11.heap.size:=(by omega)) | (go_at_call 136; refine calls_forget0 (W:=w11) ?_ ?_; (focus (exact belBy)); intro X12 hX12; have sX12:=hX12.size; refine (sLabelFor _ _ _ _ (zero_label _ _) (delta_label _ _) HBIT.out).mono ?_; rintro e w12 ⟨rfl,hb12⟩; have s12:=hb12.size; have hT12:=hX12.trans (hb12.mono sX12); have b_12:=b_11.trans (hT12.mono (by omega)); have o_12:=own_below o_11 hT12; have t_12:=Blk.past hT12 t_11; have q_12:=cell_kept q_11 hT12 (by dsimp only; omega); clear o_11 t_11 q_11 b_11 cell_t froz_t lt_t lt_q hX12 hT12 hb12; have cell_t:=t_12.cell; have froz_t:=t_12.frozen; have lt_t:=t_12.lt; have lt_q:b < w12.heap.size:=(by omega)) | (have hgd:=b_12; clear hgd; refine step_app _ rfl _ _ 30 rfl (w.heap.size + 1) 3 (.int .i64 0) 1 8 Tryz.underlying30 infoInt rfl (by decide) (.slice A' j c') j (ints (labsTo s a bs j)) rfl (by have h:=o_12; exact ownBy) ⟨w12.heap.size,0,none⟩ 1 1 _ rfl rfl (one_new w12 _ 3) (one_one _) (by omega) (by decide) (by simp; omega) ?_; intro A2 c2 w13 hown2 hg2; have hb13:=below_row (B:=w.heap.size) (w:=w) (by have h:=b_12; exact belBy) (by simp; omega) o_12 (by omega) hg2; have ht13:Blk w13 w.heap.size 27 #[.int .i64 s,.int .i64 a]:=gr_blk hg2 (by have h:=t_12; exact blkcBy) (fun q hq=>by have h1:=o_in q hq; omega); have hq13:=gr_cell hg2 (p:=⟨b,off + j,none⟩) (v:=.int .i64 x) (by have h:=q_12; (repeat (first | (with_reducible assumption) | (with_reducible refine cell_drew ?_) | (with_reducible refine cell_alloc ?_ (by first | (dsimp only; omega) | (simp; omega)))))) (by simp; omega) (fun q hq=>by have h1:=o_in q hq; dsimp only; omega); rw [←ints_snoc,←HX.out] at hown2; have HO2:=hid hown2; have HB2:=hid hb13; have HT2:=hid ht13; clear hown2 hb13 hg2 o_12 b_12 t_12 q_12))
   all_goals
    go_wp2
    go_roundw
    case rel=>exact ⟨j + 1,A2,c2,by omega,by go_num,rfl,by have h:=HO2.out; exact ownBy,by have h:=HT2.out; exact blkcBy,by have h:=HB2.out; exact belBy⟩
    case measure=>simp [intOf]; omega
  ·obtain rfl:j=bs.length:=by omega
   have HO2:=hid hown
   have HB2:=hid hb
   clear hown ht hb
   go_wp2
   go_ret
   have el:(labsTo s a bs bs.length).length=bs.length:=labsTo_length _ _ _ _
   unfold GivesInts
   rw [el]
   exact ⟨A',c',rfl,own_weak HO2.out (by omega),HB2.out⟩
open Go.RowKit
section
variable {P:Program} {f:FuncId} {args:Array Value} {X W:World} {Q:Ending→World→Prop} {b0 b1 b2 b3:Nat} {t0 t1 t2 t3:TypeId} {c0 c1 c2 c3:Array Value}
theorem calls_forget4 (h0:Blk X b0 t0 c0) (h1:Blk X b1 t1 c1) (h2:Blk X b2 t2 c2) (h3:Blk X b3 t3 c3) (hX:Below W.heap.size W X)
  (h:∀ X',Blk X' b0 t0 c0→Blk X' b1 t1 c1→Blk X' b2 t2 c2→Blk X' b3 t3 c3→Below W.heap.size W X'→Calls P f args X' Q):Calls P f args X Q:=h X h0 h1 h2 h3 hX
end
def dealA (s a:Int):Int:=belowI s a 65536
def dealB (s a:Int):Int:=belowI s (belowAt s a 65536) 65536
def dealC (s a:Int):Int:=belowI s (belowAt s (belowAt s a 65536) 65536) 2
def dealR (s a:Int):Int:=pick (dealC s a == 1) (dealB s a) (dealA s a)
def dealAt (s a:Int):Int:=belowAt s (belowAt s (belowAt s a 65536) 65536) 2
theorem deal_at {s a:Int} (h1:tapeOkB s a=true) (h2:a≤900000):dealAt s a=a + 3:=by
 have hs:isWordB s=true:=by unfold tapeOkB at h1; simp only [Bool.and_eq_true] at h1; exact h1.1
 have ha:=tapeOkB_range h1
 have ok:∀ x n,0≤x→x≤900010→1≤n→n≤65536→belowAt s x n=x + 1:=fun x n x0 x1 n0 n1=>by
  have hg:tapeGoB s x=true:=by
   unfold tapeGoB tapeOkB
   rw [hs,show inB x 0 1000000=true from inB_iff.2 (by omega),show (x == 1000000)=false by simp; omega]
   rfl
  exact (below_yes (inB_iff.2 ⟨n0,n1⟩) hg).2
 unfold dealAt
 rw [ok a 65536 (by omega) (by omega) (by omega) (by omega),ok (a + 1) 65536 (by omega) (by omega) (by omega) (by omega),ok (a + 1 + 1) 2 (by omega) (by omega) (by omega) (by omega)]
 omega
theorem deal_c (s a:Int):inB (dealC s a) 0 1=true:=by
 unfold dealC belowI
 cases h:belowB s (belowAt s (belowAt s a 65536) 65536) 2
 ·rfl
 ·rw [pick_yes]
  exact inB_iff.2 (by omega)
theorem dealR_label (s a:Int):labelB (dealR s a)=true:=by
 unfold dealR
 cases dealC s a == 1
 ·exact below_label _ _ _
 ·exact below_label _ _ _
set_option maxHeartbeats 1600000 in
theorem iOtDeal (s a:Int) (w:World) (h1:tapeOkB s a=true) (h2:a≤900000) :
  Calls Tryz.prog 97 #[.agg #[.int .i64 s,.int .i64 a]] w fun e w'=>e=.returned (.tuple #[.agg #[.int .i64 (dealA s a),.int .i64 (dealB s a)],.agg #[.int .i64 (dealC s a),.int .i64 (dealR s a)],.agg #[.int .i64 s,.int .i64 (dealAt s a)]])∧Below w.heap.size w w':=by
 have h3:decide (900000 < a)=false:=by simp; omega
 clear h2
 have TA:=hid (fun w=>iTapeBelow s a 65536 w)
 have TB:=hid (fun w=>iTapeBelow s (belowAt s a 65536) 65536 w)
 have TC:=hid (fun w=>iTapeBelow s (belowAt s (belowAt s a 65536) 65536) 2 w)
 obtain ⟨a1,e1⟩:∃ x,belowAt s a 65536=x:=⟨_,rfl⟩
 unfold dealR dealAt dealA dealB dealC
 rw [e1] at TA TB TC ⊢
 obtain ⟨a2,e2⟩:∃ x,belowAt s a1 65536=x:=⟨_,rfl⟩
 rw [e2] at TB TC ⊢
 obtain ⟨a3,e3⟩:∃ x,belowAt s a2 2=x:=⟨_,rfl⟩
 obtain ⟨r0,f0⟩:∃ x,belowI s a 65536=x:=⟨_,rfl⟩
 obtain ⟨r1,f1⟩:∃ x,belowI s a1 65536=x:=⟨_,rfl⟩
 obtain ⟨cc,f2⟩:∃ x,belowI s a2 2=x:=⟨_,rfl⟩
 rw [f0] at TA ⊢
 rw [f1] at TB ⊢
 rw [f2,e3] at TC ⊢
 clear e1 e2 e3 f0 f1 f2
 cases hcc:cc == 1
 ·rw [pick_no]
  go_enter Tryz.func97,Tryz.ntmps97
  have b_0:=(Below.refl w.heap.size w)
  have s_0:=b_0.size
  go_wp2_with fail
  refine calls_forget4 (W:=w) (b0:=w.heap.size) (t0:=27) (c0:=#[.int .i64 s,.int .i64 a]) (b1:=w.heap.size + 1) (t1:=124) (c1:=#[.int .i64 0,.int .i64 0]) (b2:=w.heap.size + 2) (t2:=126) (c2:=#[.int .i64 0,.int .i64 0]) (b3:=w.heap.size + 3) (t3:=27) (c3:=#[.int .i64 0,.int .i64 0]) ?_ ?_ ?_ ?_ ?_ ?_
  (focus exact blkcBy)
  (focus exact blkcBy)
  (focus exact blkcBy)
  (focus exact blkcBy)
  (focus (exact belBy))
  intro X1 t_n p_n q_n u_n hX1
  have sX1:=hX1.size
  have t_lt:=t_n.lt
  have p_lt:=p_n.lt
  have q_lt:=q_n.lt
  have u_lt:=u_n.lt
  refine (iTapeOk _ _ _).mono ?_
  rintro e w1 ⟨rfl,hb1⟩
  have s1:=hb1.size
  have hT1:=hX1.trans (hb1.mono sX1)
  have b_1:=b_0.trans (hT1.mono (by omega))
  have t_1:=Blk.past hb1 t_n
  have p_1:=Blk.past hb1 p_n
  have q_1:=Blk.past hb1 q_n
  have u_1:=Blk.past hb1 u_n
  clear b_0 t_n p_n q_n u_n hX1 hT1 hb1
  have cell_t:=t_1.cell
  have froz_t:=t_1.frozen
  have lt_t:=t_1.lt
  have cell_p:=p_1.cell
  have froz_p:=p_1.frozen
  have lt_p:=p_1.lt
  have cell_q:=q_1.cell
  have froz_q:=q_1.frozen
  have lt_q:=q_1.lt
  have cell_u:=u_1.cell
  have froz_u:=u_1.frozen
  have lt_u:=u_1.lt
  go_wp2_with fail
  refine calls_forget2 (W:=w1) (b0:=w1.heap.size) (t0:=124) (c0:=#[.int .i64 0,.int .i64 0]) (b1:=w1.heap.size + 1) (t1:=126) (c1:=#[.int .i64 0,.int .i64 0]) ?_ ?_ ?_ ?_
  (focus exact blkcBy)
  (focus exact blkcBy)
  (focus (exact belBy))
  intro X2 x_n y_n hX2
  have sX2:=hX2.size
  have x_lt:=x_n.lt
  have y_lt:=y_n.lt
  refine (TA.out _).mono ?_
  rintro e w2 ⟨rfl,hb2⟩
  have s2:=hb2.size
  have hT2:=hX2.trans (hb2.mono sX2)
  have b_2:=b_1.trans (hT2.mono (by omega))
  have t_2:=Blk.past hT2 t_1
  have p_2:=Blk.past hT2 p_1
  have q_2:=Blk.past hT2 q_1
  have u_2:=Blk.past hT2 u_1
  have x_2:=Blk.past hb2 x_n
  have y_2:=Blk.past hb2 y_n
  clear t_1 p_1 q_1 u_1 b_1 cell_t froz_t lt_t cell_p froz_p lt_p cell_q froz_q lt_q cell_u froz_u lt_u x_n y_n hX2 hT2 hb2
  have cell_t:=t_2.cell
  have froz_t:=t_2.frozen
  have lt_t:=t_2.lt
  have cell_p:=p_2.cell
  have froz_p:=p_2.frozen
  have lt_p:=p_2.lt
  have cell_q:=q_2.cell
  have froz_q:=q_2.frozen
  have lt_q:=q_2.lt
  have cell_u:=u_2.cell
  have froz_u:=u_2.frozen
  have lt_u:=u_2.lt
  have cell_x:=x_2.cell
  have froz_x:=x_2.frozen
  have lt_x:=x_2.lt
  have cell_y:=y_2.cell
  have froz_y:=y_2.frozen
  have lt_y:=y_2.lt
  go_wp2_with fail
  refine calls_touch2 (w0:=w2) (L:=[w1.heap.size,w.heap.size]) (b0:=w1.heap.size) (t0:=124) (c0:=#[.int .i64 r0,.int .i64 0]) (b1:=w.heap.size) (t1:=27) (c1:=#[.int .i64 s,.int .i64 a1]) ?_ ?_ ?_ ?_
  (focus exact blkcBy)
  (focus exact blkcBy)
  (focus (exact tchBy))
  intro w3 x_3 t_3 hX3
  have sX3:=hX3.size
  have b_3:=hX3.below b_2 (by first | (simp; done) | (simp; omega))
  have p_3:=Blk.touch hX3 p_2 (by first | (simp; done) | (simp; omega))
  have q_3:=Blk.touch hX3 q_2 (by first | (simp; done) | (simp; omega))
  have u_3:=Blk.touch hX3 u_2 (by first | (simp; done) | (simp; omega))
  have y_3:=Blk.touch hX3 y_2 (by first | (simp; done) | (simp; omega))
  clear t_2 p_2 q_2 u_2 x_2 y_2 b_2 cell_t froz_t lt_t cell_p froz_p lt_p cell_q froz_q lt_q cell_u froz_u lt_u cell_x froz_x lt_x cell_y froz_y lt_y hX3
  have cell_t:=t_3.cell
  have froz_t:=t_3.frozen
  have lt_t:=t_3.lt
  have cell_p:=p_3.cell
  have froz_p:=p_3.frozen
  have lt_p:=p_3.lt
  have cell_q:=q_3.cell
  have froz_q:=q_3.frozen
  have lt_q:=q_3.lt
  have cell_u:=u_3.cell
  have froz_u:=u_3.frozen
  have lt_u:=u_3.lt
  have cell_x:=x_3.cell
  have froz_x:=x_3.frozen
  have lt_x:=x_3.lt
  have cell_y:=y_3.cell
  have froz_y:=y_3.frozen
  have lt_y:=y_3.lt
  go_wp2_with fail
  refine calls_forget0 (W:=w3) ?_ ?_
  (focus (exact belBy))
  intro X4 hX4
  have sX4:=hX4.size
  refine (TB.out _).mono ?_
  rintro e w4 ⟨rfl,hb4⟩
  have s4:=hb4.size
  have hT4:=hX4.trans (hb4.mono sX4)
  have b_4:=b_3.trans (hT4.mono (by omega))
  have t_4:=Blk.past hT4 t_3
  have p_4:=Blk.past hT4 p_3
  have q_4:=Blk.past hT4 q_3
  have u_4:=Blk.past hT4 u_3
  have x_4:=Blk.past hT4 x_3
  have y_4:=Blk.past hT4 y_3
  clear t_3 p_3 q_3 u_3 x_3 y_3 b_3 cell_t froz_t lt_t cell_p froz_p lt_p cell_q froz_q lt_q cell_u froz_u lt_u cell_x froz_x lt_x cell_y froz_y lt_y hX4 hT4 hb4
  have cell_t:=t_4.cell
  have froz_t:=t_4.frozen
  have lt_t:=t_4.lt
  have cell_p:=p_4.cell
  have froz_p:=p_4.frozen
  have lt_p:=p_4.lt
  have cell_q:=q_4.cell
  have froz_q:=q_4.frozen
  have lt_q:=q_4.lt
  have cell_u:=u_4.cell
  have froz_u:=u_4.frozen
  have lt_u:=u_4.lt
  have cell_x:=x_4.cell
  have froz_x:=x_4.frozen
  have lt_x:=x_4.lt
  have cell_y:=y_4.cell
  have froz_y:=y_4.frozen
  have lt_y:=y_4.lt
  go_wp2_with fail
  refine calls_touch2 (w0:=w4) (L:=[w1.heap.size,w.heap.size]) (b0:=w1.heap.size) (t0:=124) (c0:=#[.int .i64 r0,.int .i64 r1]) (b1:=w.heap.size) (t1:=27) (c1:=#[.int .i64 s,.int .i64 a2]) ?_ ?_ ?_ ?_
  (focus exact blkcBy)
  (focus exact blkcBy)
  (focus (exact tchBy))
  intro w5 x_5 t_5 hX5
  have sX5:=hX5.size
  have b_5:=hX5.below b_4 (by first | (simp; done) | (simp; omega))
  have p_5:=Blk.touch hX5 p_4 (by first | (simp; done) | (simp; omega))
  have q_5:=Blk.touch hX5 q_4 (by first | (simp; done) | (simp; omega))
  have u_5:=Blk.touch hX5 u_4 (by first | (simp; done) | (simp; omega))
  have y_5:=Blk.touch hX5 y_4 (by first | (simp; done) | (simp; omega))
  clear t_4 p_4 q_4 u_4 x_4 y_4 b_4 cell_t froz_t lt_t cell_p froz_p lt_p cell_q froz_q lt_q cell_u froz_u lt_u cell_x froz_x lt_x cell_y froz_y lt_y hX5
  have cell_t:=t_5.cell
  have froz_t:=t_5.frozen
  have lt_t:=t_5.lt
  have cell_p:=p_5.cell
  have froz_p:=p_5.frozen
  have lt_p:=p_5.lt
  have cell_q:=q_5.cell
  have froz_q:=q_5.frozen
  have lt_q:=q_5.lt
  have cell_u:=u_5.cell
  have froz_u:=u_5.frozen
  have lt_u:=u_5.lt
  have cell_x:=x_5.cell
  have froz_x:=x_5.frozen
  have lt_x:=x_5.lt
  have cell_y:=y_5.cell
  have froz_y:=y_5.frozen
  have lt_y:=y_5.lt
  go_wp2_with fail
  refine calls_forget0 (W:=w5) ?_ ?_
  (focus (exact belBy))
  intro X6 hX6
  have sX6:=hX6.size
  refine (TC.out _).mono ?_
  rintro e w6 ⟨rfl,hb6⟩
  have s6:=hb6.size
  have hT6:=hX6.trans (hb6.mono sX6)
  have b_6:=b_5.trans (hT6.mono (by omega))
  have t_6:=Blk.past hT6 t_5
  have p_6:=Blk.past hT6 p_5
  have q_6:=Blk.past hT6 q_5
  have u_6:=Blk.past hT6 u_5
  have x_6:=Blk.past hT6 x_5
  have y_6:=Blk.past hT6 y_5
  clear t_5 p_5 q_5 u_5 x_5 y_5 b_5 cell_t froz_t lt_t cell_p froz_p lt_p cell_q froz_q lt_q cell_u froz_u lt_u cell_x froz_x lt_x cell_y froz_y lt_y hX6 hT6 hb6
  have cell_t:=t_6.cell
  have froz_t:=t_6.frozen
  have lt_t:=t_6.lt
  have cell_p:=p_6.cell
  have froz_p:=p_6.frozen
  have lt_p:=p_6.lt
  have cell_q:=q_6.cell
  have froz_q:=q_6.frozen
  have lt_q:=q_6.lt
  have cell_u:=u_6.cell
  have froz_u:=u_6.frozen
  have lt_u:=u_6.lt
  have cell_x:=x_6.cell
  have froz_x:=x_6.frozen
  have lt_x:=x_6.lt
  have cell_y:=y_6.cell
  have froz_y:=y_6.frozen
  have lt_y:=y_6.lt
  go_upto_region 11 with fail
  refine wp_touch2 (w0:=w6) (L:=[w1.heap.size + 1,w.heap.size]) (b0:=w1.heap.size + 1) (t0:=126) (c0:=#[.int .i64 cc,.int .i64 r0]) (b1:=w.heap.size) (t1:=27) (c1:=#[.int .i64 s,.int .i64 a3]) ?_ ?_ ?_ ?_
  (focus exact blkcBy)
  (focus exact blkcBy)
  (focus (exact tchBy))
  intro w7 y_7 t_7 hX7
  have sX7:=hX7.size
  have b_7:=hX7.below b_6 (by first | (simp; done) | (simp; omega))
  have p_7:=Blk.touch hX7 p_6 (by first | (simp; done) | (simp; omega))
  have q_7:=Blk.touch hX7 q_6 (by first | (simp; done) | (simp; omega))
  have u_7:=Blk.touch hX7 u_6 (by first | (simp; done) | (simp; omega))
  have x_7:=Blk.touch hX7 x_6 (by first | (simp; done) | (simp; omega))
  clear t_6 p_6 q_6 u_6 x_6 y_6 b_6 cell_t froz_t lt_t cell_p froz_p lt_p cell_q froz_q lt_q cell_u froz_u lt_u cell_x froz_x lt_x cell_y froz_y lt_y hX7
  have cell_t:=t_7.cell
  have froz_t:=t_7.frozen
  have lt_t:=t_7.lt
  have cell_p:=p_7.cell
  have froz_p:=p_7.frozen
  have lt_p:=p_7.lt
  have cell_q:=q_7.cell
  have froz_q:=q_7.frozen
  have lt_q:=q_7.lt
  have cell_u:=u_7.cell
  have froz_u:=u_7.frozen
  have lt_u:=u_7.lt
  have cell_x:=x_7.cell
  have froz_x:=x_7.frozen
  have lt_x:=x_7.lt
  have cell_y:=y_7.cell
  have froz_y:=y_7.frozen
  have lt_y:=y_7.lt
  go_wp2_with fail
  go_region_held3 (fun w'=>w'.cell? ⟨w.heap.size,0,none⟩=some (.int .i64 s)∧w'.cell? ⟨w.heap.size,1,none⟩=some (.int .i64 a3)∧w'.cell? ⟨w1.heap.size,0,none⟩=some (.int .i64 r0)∧w'.cell? ⟨w1.heap.size,1,none⟩=some (.int .i64 r1)∧w'.cell? ⟨w1.heap.size + 1,0,none⟩=some (.int .i64 cc)∧w'.cell? ⟨w1.heap.size + 1,1,none⟩=some (.int .i64 r0)) ((refine ⟨(Blk.cell (t:=27) (cs:=#[.int .i64 s,.int .i64 a3]) ?qt 0),(Blk.cell ?qt 1),(Blk.cell (t:=124) (cs:=#[.int .i64 r0,.int .i64 r1]) ?qx 0),(Blk.cell ?qx 1),(Blk.cell (t:=126) (cs:=#[.int .i64 cc,.int .i64 r0]) ?qy 0),(Blk.cell ?qy 1)⟩; (case qt=>(exact blkBy)); (case qx=>(exact blkBy)); (case qy=>(exact blkBy)))) (fail)
  all_goals
   go_wp2_with fail
   ((try simp only [Exit.inBlock,Exit.then]); apply bodyPost_ret0; focus ((try simp only [results,Tryz.results97]); (try go_simp); (try rfl)))
   refine ⟨rfl,?_⟩
   exact belBy
 ·rw [pick_yes]
  go_enter Tryz.func97,Tryz.ntmps97
  have b_0:=(Below.refl w.heap.size w)
  have s_0:=b_0.size
  go_wp2_with fail
  refine calls_forget4 (W:=w) (b0:=w.heap.size) (t0:=27) (c0:=#[.int .i64 s,.int .i64 a]) (b1:=w.heap.size + 1) (t1:=124) (c1:=#[.int .i64 0,.int .i64 0]) (b2:=w.heap.size + 2) (t2:=126) (c2:=#[.int .i64 0,.int .i64 0]) (b3:=w.heap.size + 3) (t3:=27) (c3:=#[.int .i64 0,.int .i64 0]) ?_ ?_ ?_ ?_ ?_ ?_
  (focus exact blkcBy)
  (focus exact blkcBy)
  (focus exact blkcBy)
  (focus exact blkcBy)
  (focus (exact belBy))
  intro X1 t_n p_n q_n u_n hX1
  have sX1:=hX1.size
  have t_lt:=t_n.lt
  have p_lt:=p_n.lt
  have q_lt:=q_n.lt
  have u_lt:=u_n.lt
  refine (iTapeOk _ _ _).mono ?_
  rintro e w1 ⟨rfl,hb1⟩
  have s1:=hb1.size
  have hT1:=hX1.trans (hb1.mono sX1)
  have b_1:=b_0.trans (hT1.mono (by omega))
  have t_1:=Blk.past hb1 t_n
  have p_1:=Blk.past hb1 p_n
  have q_1:=Blk.past hb1 q_n
  have u_1:=Blk.past hb1 u_n
  clear b_0 t_n p_n q_n u_n hX1 hT1 hb1
  have cell_t:=t_1.cell
  have froz_t:=t_1.frozen
  have lt_t:=t_1.lt
  have cell_p:=p_1.cell
  have froz_p:=p_1.frozen
  have lt_p:=p_1.lt
  have cell_q:=q_1.cell
  have froz_q:=q_1.frozen
  have lt_q:=q_1.lt
  have cell_u:=u_1.cell
  have froz_u:=u_1.frozen
  have lt_u:=u_1.lt
  go_wp2_with fail
  refine calls_forget2 (W:=w1) (b0:=w1.heap.size) (t0:=124) (c0:=#[.int .i64 0,.int .i64 0]) (b1:=w1.heap.size + 1) (t1:=126) (c1:=#[.int .i64 0,.int .i64 0]) ?_ ?_ ?_ ?_
  (focus exact blkcBy)
  (focus exact blkcBy)
  (focus (exact belBy))
  intro X2 x_n y_n hX2
  have sX2:=hX2.size
  have x_lt:=x_n.lt
  have y_lt:=y_n.lt
  refine (TA.out _).mono ?_
  rintro e w2 ⟨rfl,hb2⟩
  have s2:=hb2.size
  have hT2:=hX2.trans (hb2.mono sX2)
  have b_2:=b_1.trans (hT2.mono (by omega))
  have t_2:=Blk.past hT2 t_1
  have p_2:=Blk.past hT2 p_1
  have q_2:=Blk.past hT2 q_1
  have u_2:=Blk.past hT2 u_1
  have x_2:=Blk.past hb2 x_n
  have y_2:=Blk.past hb2 y_n
  clear t_1 p_1 q_1 u_1 b_1 cell_t froz_t lt_t cell_p froz_p lt_p cell_q froz_q lt_q cell_u froz_u lt_u x_n y_n hX2 hT2 hb2
  have cell_t:=t_2.cell
  have froz_t:=t_2.frozen
  have lt_t:=t_2.lt
  have cell_p:=p_2.cell
  have froz_p:=p_2.frozen
  have lt_p:=p_2.lt
  have cell_q:=q_2.cell
  have froz_q:=q_2.frozen
  have lt_q:=q_2.lt
  have cell_u:=u_2.cell
  have froz_u:=u_2.frozen
  have lt_u:=u_2.lt
  have cell_x:=x_2.cell
  have froz_x:=x_2.frozen
  have lt_x:=x_2.lt
  have cell_y:=y_2.cell
  have froz_y:=y_2.frozen
  have lt_y:=y_2.lt
  go_wp2_with fail
  refine calls_touch2 (w0:=w2) (L:=[w1.heap.size,w.heap.size]) (b0:=w1.heap.size) (t0:=124) (c0:=#[.int .i64 r0,.int .i64 0]) (b1:=w.heap.size) (t1:=27) (c1:=#[.int .i64 s,.int .i64 a1]) ?_ ?_ ?_ ?_
  (focus exact blkcBy)
  (focus exact blkcBy)
  (focus (exact tchBy))
  intro w3 x_3 t_3 hX3
  have sX3:=hX3.size
  have b_3:=hX3.below b_2 (by first | (simp; done) | (simp; omega))
  have p_3:=Blk.touch hX3 p_2 (by first | (simp; done) | (simp; omega))
  have q_3:=Blk.touch hX3 q_2 (by first | (simp; done) | (simp; omega))
  have u_3:=Blk.touch hX3 u_2 (by first | (simp; done) | (simp; omega))
  have y_3:=Blk.touch hX3 y_2 (by first | (simp; done) | (simp; omega))
  clear t_2 p_2 q_2 u_2 x_2 y_2 b_2 cell_t froz_t lt_t cell_p froz_p lt_p cell_q froz_q lt_q cell_u froz_u lt_u cell_x froz_x lt_x cell_y froz_y lt_y hX3
  have cell_t:=t_3.cell
  have froz_t:=t_3.frozen
  have lt_t:=t_3.lt
  have cell_p:=p_3.cell
  have froz_p:=p_3.frozen
  have lt_p:=p_3.lt
  have cell_q:=q_3.cell
  have froz_q:=q_3.frozen
  have lt_q:=q_3.lt
  have cell_u:=u_3.cell
  have froz_u:=u_3.frozen
  have lt_u:=u_3.lt
  have cell_x:=x_3.cell
  have froz_x:=x_3.frozen
  have lt_x:=x_3.lt
  have cell_y:=y_3.cell
  have froz_y:=y_3.frozen
  have lt_y:=y_3.lt
  go_wp2_with fail
  refine calls_forget0 (W:=w3) ?_ ?_
  (focus (exact belBy))
  intro X4 hX4
  have sX4:=hX4.size
  refine (TB.out _).mono ?_
  rintro e w4 ⟨rfl,hb4⟩
  have s4:=hb4.size
  have hT4:=hX4.trans (hb4.mono sX4)
  have b_4:=b_3.trans (hT4.mono (by omega))
  have t_4:=Blk.past hT4 t_3
  have p_4:=Blk.past hT4 p_3
  have q_4:=Blk.past hT4 q_3
  have u_4:=Blk.past hT4 u_3
  have x_4:=Blk.past hT4 x_3
  have y_4:=Blk.past hT4 y_3
  clear t_3 p_3 q_3 u_3 x_3 y_3 b_3 cell_t froz_t lt_t cell_p froz_p lt_p cell_q froz_q lt_q cell_u froz_u lt_u cell_x froz_x lt_x cell_y froz_y lt_y hX4 hT4 hb4
  have cell_t:=t_4.cell
  have froz_t:=t_4.frozen
  have lt_t:=t_4.lt
  have cell_p:=p_4.cell
  have froz_p:=p_4.frozen
  have lt_p:=p_4.lt
  have cell_q:=q_4.cell
  have froz_q:=q_4.frozen
  have lt_q:=q_4.lt
  have cell_u:=u_4.cell
  have froz_u:=u_4.frozen
  have lt_u:=u_4.lt
  have cell_x:=x_4.cell
  have froz_x:=x_4.frozen
  have lt_x:=x_4.lt
  have cell_y:=y_4.cell
  have froz_y:=y_4.frozen
  have lt_y:=y_4.lt
  go_wp2_with fail
  refine calls_touch2 (w0:=w4) (L:=[w1.heap.size,w.heap.size]) (b0:=w1.heap.size) (t0:=124) (c0:=#[.int .i64 r0,.int .i64 r1]) (b1:=w.heap.size) (t1:=27) (c1:=#[.int .i64 s,.int .i64 a2]) ?_ ?_ ?_ ?_
  (focus exact blkcBy)
  (focus exact blkcBy)
  (focus (exact tchBy))
  intro w5 x_5 t_5 hX5
  have sX5:=hX5.size
  have b_5:=hX5.below b_4 (by first | (simp; done) | (simp; omega))
  have p_5:=Blk.touch hX5 p_4 (by first | (simp; done) | (simp; omega))
  have q_5:=Blk.touch hX5 q_4 (by first | (simp; done) | (simp; omega))
  have u_5:=Blk.touch hX5 u_4 (by first | (simp; done) | (simp; omega))
  have y_5:=Blk.touch hX5 y_4 (by first | (simp; done) | (simp; omega))
  clear t_4 p_4 q_4 u_4 x_4 y_4 b_4 cell_t froz_t lt_t cell_p froz_p lt_p cell_q froz_q lt_q cell_u froz_u lt_u cell_x froz_x lt_x cell_y froz_y lt_y hX5
  have cell_t:=t_5.cell
  have froz_t:=t_5.frozen
  have lt_t:=t_5.lt
  have cell_p:=p_5.cell
  have froz_p:=p_5.frozen
  have lt_p:=p_5.lt
  have cell_q:=q_5.cell
  have froz_q:=q_5.frozen
  have lt_q:=q_5.lt
  have cell_u:=u_5.cell
  have froz_u:=u_5.frozen
  have lt_u:=u_5.lt
  have cell_x:=x_5.cell
  have froz_x:=x_5.frozen
  have lt_x:=x_5.lt
  have cell_y:=y_5.cell
  have froz_y:=y_5.frozen
  have lt_y:=y_5.lt
  go_wp2_with fail
  refine calls_forget0 (W:=w5) ?_ ?_
  (focus (exact belBy))
  intro X6 hX6
  have sX6:=hX6.size
  refine (TC.out _).mono ?_
  rintro e w6 ⟨rfl,hb6⟩
  have s6:=hb6.size
  have hT6:=hX6.trans (hb6.mono sX6)
  have b_6:=b_5.trans (hT6.mono (by omega))
  have t_6:=Blk.past hT6 t_5
  have p_6:=Blk.past hT6 p_5
  have q_6:=Blk.past hT6 q_5
  have u_6:=Blk.past hT6 u_5
  have x_6:=Blk.past hT6 x_5
  have y_6:=Blk.past hT6 y_5
  clear t_5 p_5 q_5 u_5 x_5 y_5 b_5 cell_t froz_t lt_t cell_p froz_p lt_p cell_q froz_q lt_q cell_u froz_u lt_u cell_x froz_x lt_x cell_y froz_y lt_y hX6 hT6 hb6
  have cell_t:=t_6.cell
  have froz_t:=t_6.frozen
  have lt_t:=t_6.lt
  have cell_p:=p_6.cell
  have froz_p:=p_6.frozen
  have lt_p:=p_6.lt
  have cell_q:=q_6.cell
  have froz_q:=q_6.frozen
  have lt_q:=q_6.lt
  have cell_u:=u_6.cell
  have froz_u:=u_6.frozen
  have lt_u:=u_6.lt
  have cell_x:=x_6.cell
  have froz_x:=x_6.frozen
  have lt_x:=x_6.lt
  have cell_y:=y_6.cell
  have froz_y:=y_6.frozen
  have lt_y:=y_6.lt
  go_upto_region 11 with fail
  refine wp_touch2 (w0:=w6) (L:=[w1.heap.size + 1,w.heap.size]) (b0:=w1.heap.size + 1) (t0:=126) (c0:=#[.int .i64 cc,.int .i64 r1]) (b1:=w.heap.size) (t1:=27) (c1:=#[.int .i64 s,.int .i64 a3]) ?_ ?_ ?_ ?_
  (focus exact blkcBy)
  (focus exact blkcBy)
  (focus (exact tchBy))
  intro w7 y_7 t_7 hX7
  have sX7:=hX7.size
  have b_7:=hX7.below b_6 (by first | (simp; done) | (simp; omega))
  have p_7:=Blk.touch hX7 p_6 (by first | (simp; done) | (simp; omega))
  have q_7:=Blk.touch hX7 q_6 (by first | (simp; done) | (simp; omega))
  have u_7:=Blk.touch hX7 u_6 (by first | (simp; done) | (simp; omega))
  have x_7:=Blk.touch hX7 x_6 (by first | (simp; done) | (simp; omega))
  clear t_6 p_6 q_6 u_6 x_6 y_6 b_6 cell_t froz_t lt_t cell_p froz_p lt_p cell_q froz_q lt_q cell_u froz_u lt_u cell_x froz_x lt_x cell_y froz_y lt_y hX7
  have cell_t:=t_7.cell
  have froz_t:=t_7.frozen
  have lt_t:=t_7.lt
  have cell_p:=p_7.cell
  have froz_p:=p_7.frozen
  have lt_p:=p_7.lt
  have cell_q:=q_7.cell
  have froz_q:=q_7.frozen
  have lt_q:=q_7.lt
  have cell_u:=u_7.cell
  have froz_u:=u_7.frozen
  have lt_u:=u_7.lt
  have cell_x:=x_7.cell
  have froz_x:=x_7.frozen
  have lt_x:=x_7.lt
  have cell_y:=y_7.cell
  have froz_y:=y_7.frozen
  have lt_y:=y_7.lt
  go_wp2_with fail
  go_region_held3 (fun w'=>w'.cell? ⟨w.heap.size,0,none⟩=some (.int .i64 s)∧w'.cell? ⟨w.heap.size,1,none⟩=some (.int .i64 a3)∧w'.cell? ⟨w1.heap.size,0,none⟩=some (.int .i64 r0)∧w'.cell? ⟨w1.heap.size,1,none⟩=some (.int .i64 r1)∧w'.cell? ⟨w1.heap.size + 1,0,none⟩=some (.int .i64 cc)∧w'.cell? ⟨w1.heap.size + 1,1,none⟩=some (.int .i64 r1)) ((refine ⟨(Blk.cell (t:=27) (cs:=#[.int .i64 s,.int .i64 a3]) ?qt 0),(Blk.cell ?qt 1),(Blk.cell (t:=124) (cs:=#[.int .i64 r0,.int .i64 r1]) ?qx 0),(Blk.cell ?qx 1),(Blk.cell (t:=126) (cs:=#[.int .i64 cc,.int .i64 r1]) ?qy 0),(Blk.cell ?qy 1)⟩; (case qt=>(exact blkBy)); (case qx=>(exact blkBy)); (case qy=>(exact blkBy)))) (fail)
  all_goals
   go_wp2_with fail
   ((try simp only [Exit.inBlock,Exit.then]); apply bodyPost_ret0; focus ((try simp only [results,Tryz.results97]); (try go_simp); (try rfl)))
   refine ⟨rfl,?_⟩
   exact belBy
set_option maxHeartbeats 1600000 in
theorem sOtDeal (s a:Int) (w:World) (h1:tapeOkB s a=true) (h2:a≤900000) :
  Calls Tryz.prog 141 #[.agg #[.int .i64 s,.int .i64 a]] w fun e w'=>e=.returned (.tuple #[.agg #[.int .i64 (dealA s a),.int .i64 (dealB s a)],.agg #[.int .i64 (dealC s a),.int .i64 (dealR s a)],.agg #[.int .i64 s,.int .i64 (dealAt s a)]])∧Below w.heap.size w w':=by
 have h3:(tapeOkB s a && decide (a≤900000))=true:=by simp [h1,h2]
 clear h2
 have TA:=hid (fun w=>sTapeBelow s a 65536 w)
 have TB:=hid (fun w=>sTapeBelow s (belowAt s a 65536) 65536 w)
 have TC:=hid (fun w=>sTapeBelow s (belowAt s (belowAt s a 65536) 65536) 2 w)
 obtain ⟨a1,e1⟩:∃ x,belowAt s a 65536=x:=⟨_,rfl⟩
 unfold dealR dealAt dealA dealB dealC
 rw [e1] at TA TB TC ⊢
 obtain ⟨a2,e2⟩:∃ x,belowAt s a1 65536=x:=⟨_,rfl⟩
 rw [e2] at TB TC ⊢
 obtain ⟨a3,e3⟩:∃ x,belowAt s a2 2=x:=⟨_,rfl⟩
 obtain ⟨r0,f0⟩:∃ x,belowI s a 65536=x:=⟨_,rfl⟩
 obtain ⟨r1,f1⟩:∃ x,belowI s a1 65536=x:=⟨_,rfl⟩
 obtain ⟨cc,f2⟩:∃ x,belowI s a2 2=x:=⟨_,rfl⟩
 rw [f0] at TA ⊢
 rw [f1] at TB ⊢
 rw [f2,e3] at TC ⊢
 clear e1 e2 e3 f0 f1 f2
 cases hcc:cc == 1
 ·rw [pick_no]
  go_enter Tryz.func141,Tryz.ntmps141
  have b_0:=(Below.refl w.heap.size w)
  have s_0:=b_0.size
  go_wp2_with fail
  refine calls_forget4 (W:=w) (b0:=w.heap.size) (t0:=27) (c0:=#[.int .i64 s,.int .i64 a]) (b1:=w.heap.size + 1) (t1:=124) (c1:=#[.int .i64 0,.int .i64 0]) (b2:=w.heap.size + 2) (t2:=126) (c2:=#[.int .i64 0,.int .i64 0]) (b3:=w.heap.size + 3) (t3:=27) (c3:=#[.int .i64 0,.int .i64 0]) ?_ ?_ ?_ ?_ ?_ ?_
  (focus exact blkcBy)
  (focus exact blkcBy)
  (focus exact blkcBy)
  (focus exact blkcBy)
  (focus (exact belBy))
  intro X1 t_n p_n q_n u_n hX1
  have sX1:=hX1.size
  have t_lt:=t_n.lt
  have p_lt:=p_n.lt
  have q_lt:=q_n.lt
  have u_lt:=u_n.lt
  refine (s_l06 _ _ _).mono ?_
  rintro e w1 ⟨rfl,hb1⟩
  have s1:=hb1.size
  have hT1:=hX1.trans (hb1.mono sX1)
  have b_1:=b_0.trans (hT1.mono (by omega))
  have t_1:=Blk.past hb1 t_n
  have p_1:=Blk.past hb1 p_n
  have q_1:=Blk.past hb1 q_n
  have u_1:=Blk.past hb1 u_n
  clear b_0 t_n p_n q_n u_n hX1 hT1 hb1
  have cell_t:=t_1.cell
  have froz_t:=t_1.frozen
  have lt_t:=t_1.lt
  have cell_p:=p_1.cell
  have froz_p:=p_1.frozen
  have lt_p:=p_1.lt
  have cell_q:=q_1.cell
  have froz_q:=q_1.frozen
  have lt_q:=q_1.lt
  have cell_u:=u_1.cell
  have froz_u:=u_1.frozen
  have lt_u:=u_1.lt
  rw [h3]
  go_wp2_with fail
  refine calls_forget0 (W:=w1) ?_ ?_
  (focus (exact belBy))
  intro X2 hX2
  have sX2:=hX2.size
  refine (TA.out _).mono ?_
  rintro e w2 ⟨rfl,hb2⟩
  have s2:=hb2.size
  have hT2:=hX2.trans (hb2.mono sX2)
  have b_2:=b_1.trans (hT2.mono (by omega))
  have t_2:=Blk.past hT2 t_1
  have p_2:=Blk.past hT2 p_1
  have q_2:=Blk.past hT2 q_1
  have u_2:=Blk.past hT2 u_1
  clear t_1 p_1 q_1 u_1 b_1 cell_t froz_t lt_t cell_p froz_p lt_p cell_q froz_q lt_q cell_u froz_u lt_u hX2 hT2 hb2
  have cell_t:=t_2.cell
  have froz_t:=t_2.frozen
  have lt_t:=t_2.lt
  have cell_p:=p_2.cell
  have froz_p:=p_2.frozen
  have lt_p:=p_2.lt
  have cell_q:=q_2.cell
  have froz_q:=q_2.frozen
  have lt_q:=q_2.lt
  have cell_u:=u_2.cell
  have froz_u:=u_2.frozen
  have lt_u:=u_2.lt
  go_wp2_with fail
  refine calls_forget1 (W:=w2) (b0:=w2.heap.size) (t0:=27) (c0:=#[.int .i64 s,.int .i64 a1]) ?_ ?_ ?_
  (focus exact blkcBy)
  (focus (exact belBy))
  intro X3 x1_n hX3
  have sX3:=hX3.size
  have x1_lt:=x1_n.lt
  refine (TB.out _).mono ?_
  rintro e w3 ⟨rfl,hb3⟩
  have s3:=hb3.size
  have hT3:=hX3.trans (hb3.mono sX3)
  have b_3:=b_2.trans (hT3.mono (by omega))
  have t_3:=Blk.past hT3 t_2
  have p_3:=Blk.past hT3 p_2
  have q_3:=Blk.past hT3 q_2
  have u_3:=Blk.past hT3 u_2
  have x1_3:=Blk.past hb3 x1_n
  clear t_2 p_2 q_2 u_2 b_2 cell_t froz_t lt_t cell_p froz_p lt_p cell_q froz_q lt_q cell_u froz_u lt_u x1_n hX3 hT3 hb3
  have cell_t:=t_3.cell
  have froz_t:=t_3.frozen
  have lt_t:=t_3.lt
  have cell_p:=p_3.cell
  have froz_p:=p_3.frozen
  have lt_p:=p_3.lt
  have cell_q:=q_3.cell
  have froz_q:=q_3.frozen
  have lt_q:=q_3.lt
  have cell_u:=u_3.cell
  have froz_u:=u_3.frozen
  have lt_u:=u_3.lt
  have cell_x1:=x1_3.cell
  have froz_x1:=x1_3.frozen
  have lt_x1:=x1_3.lt
  go_wp2_with fail
  refine calls_forget1 (W:=w3) (b0:=w3.heap.size) (t0:=27) (c0:=#[.int .i64 s,.int .i64 a2]) ?_ ?_ ?_
  (focus exact blkcBy)
  (focus (exact belBy))
  intro X4 x2_n hX4
  have sX4:=hX4.size
  have x2_lt:=x2_n.lt
  refine (TC.out _).mono ?_
  rintro e w4 ⟨rfl,hb4⟩
  have s4:=hb4.size
  have hT4:=hX4.trans (hb4.mono sX4)
  have b_4:=b_3.trans (hT4.mono (by omega))
  have t_4:=Blk.past hT4 t_3
  have p_4:=Blk.past hT4 p_3
  have q_4:=Blk.past hT4 q_3
  have u_4:=Blk.past hT4 u_3
  have x1_4:=Blk.past hT4 x1_3
  have x2_4:=Blk.past hb4 x2_n
  clear t_3 p_3 q_3 u_3 x1_3 b_3 cell_t froz_t lt_t cell_p froz_p lt_p cell_q froz_q lt_q cell_u froz_u lt_u cell_x1 froz_x1 lt_x1 x2_n hX4 hT4 hb4
  have cell_t:=t_4.cell
  have froz_t:=t_4.frozen
  have lt_t:=t_4.lt
  have cell_p:=p_4.cell
  have froz_p:=p_4.frozen
  have lt_p:=p_4.lt
  have cell_q:=q_4.cell
  have froz_q:=q_4.frozen
  have lt_q:=q_4.lt
  have cell_u:=u_4.cell
  have froz_u:=u_4.frozen
  have lt_u:=u_4.lt
  have cell_x1:=x1_4.cell
  have froz_x1:=x1_4.frozen
  have lt_x1:=x1_4.lt
  have cell_x2:=x2_4.cell
  have froz_x2:=x2_4.frozen
  have lt_x2:=x2_4.lt
  go_upto_region 9 with fail
  refine wp_forget1 (w0:=w4) (B:=w4.heap.size) (b0:=w4.heap.size) (t0:=27) (c0:=#[.int .i64 s,.int .i64 a3]) ?_ ?_ ?_
  (focus exact blkcBy)
  (focus (exact belBy))
  intro w5 x3_5 hX5
  have sX5:=hX5.size
  have x3_lt:=x3_5.lt
  have b_5:=b_4.trans (hX5.mono (by omega))
  have t_5:=Blk.past hX5 t_4
  have p_5:=Blk.past hX5 p_4
  have q_5:=Blk.past hX5 q_4
  have u_5:=Blk.past hX5 u_4
  have x1_5:=Blk.past hX5 x1_4
  have x2_5:=Blk.past hX5 x2_4
  clear t_4 p_4 q_4 u_4 x1_4 x2_4 b_4 cell_t froz_t lt_t cell_p froz_p lt_p cell_q froz_q lt_q cell_u froz_u lt_u cell_x1 froz_x1 lt_x1 cell_x2 froz_x2 lt_x2 hX5
  have cell_t:=t_5.cell
  have froz_t:=t_5.frozen
  have lt_t:=t_5.lt
  have cell_p:=p_5.cell
  have froz_p:=p_5.frozen
  have lt_p:=p_5.lt
  have cell_q:=q_5.cell
  have froz_q:=q_5.frozen
  have lt_q:=q_5.lt
  have cell_u:=u_5.cell
  have froz_u:=u_5.frozen
  have lt_u:=u_5.lt
  have cell_x1:=x1_5.cell
  have froz_x1:=x1_5.frozen
  have lt_x1:=x1_5.lt
  have cell_x2:=x2_5.cell
  have froz_x2:=x2_5.frozen
  have lt_x2:=x2_5.lt
  have cell_x3:=x3_5.cell
  have froz_x3:=x3_5.frozen
  have lt_x3:=x3_5.lt
  go_wp2_with fail
  go_region_held3 (fun w'=>w'.cell? ⟨w4.heap.size,0,none⟩=some (.int .i64 s)∧w'.cell? ⟨w4.heap.size,1,none⟩=some (.int .i64 a3)) ((refine ⟨(Blk.cell (t:=27) (cs:=#[.int .i64 s,.int .i64 a3]) ?qx3 0),(Blk.cell ?qx3 1)⟩; (case qx3=>(exact blkBy)))) (fail)
  all_goals
   go_wp2_with fail
   ((try simp only [Exit.inBlock,Exit.then]); apply bodyPost_ret0; focus ((try simp only [results,Tryz.results141]); (try go_simp); (try rfl)))
   refine ⟨rfl,?_⟩
   exact belBy
 ·rw [pick_yes]
  go_enter Tryz.func141,Tryz.ntmps141
  have b_0:=(Below.refl w.heap.size w)
  have s_0:=b_0.size
  go_wp2_with fail
  refine calls_forget4 (W:=w) (b0:=w.heap.size) (t0:=27) (c0:=#[.int .i64 s,.int .i64 a]) (b1:=w.heap.size + 1) (t1:=124) (c1:=#[.int .i64 0,.int .i64 0]) (b2:=w.heap.size + 2) (t2:=126) (c2:=#[.int .i64 0,.int .i64 0]) (b3:=w.heap.size + 3) (t3:=27) (c3:=#[.int .i64 0,.int .i64 0]) ?_ ?_ ?_ ?_ ?_ ?_
  (focus exact blkcBy)
  (focus exact blkcBy)
  (focus exact blkcBy)
  (focus exact blkcBy)
  (focus (exact belBy))
  intro X1 t_n p_n q_n u_n hX1
  have sX1:=hX1.size
  have t_lt:=t_n.lt
  have p_lt:=p_n.lt
  have q_lt:=q_n.lt
  have u_lt:=u_n.lt
  refine (s_l06 _ _ _).mono ?_
  rintro e w1 ⟨rfl,hb1⟩
  have s1:=hb1.size
  have hT1:=hX1.trans (hb1.mono sX1)
  have b_1:=b_0.trans (hT1.mono (by omega))
  have t_1:=Blk.past hb1 t_n
  have p_1:=Blk.past hb1 p_n
  have q_1:=Blk.past hb1 q_n
  have u_1:=Blk.past hb1 u_n
  clear b_0 t_n p_n q_n u_n hX1 hT1 hb1
  have cell_t:=t_1.cell
  have froz_t:=t_1.frozen
  have lt_t:=t_1.lt
  have cell_p:=p_1.cell
  have froz_p:=p_1.frozen
  have lt_p:=p_1.lt
  have cell_q:=q_1.cell
  have froz_q:=q_1.frozen
  have lt_q:=q_1.lt
  have cell_u:=u_1.cell
  have froz_u:=u_1.frozen
  have lt_u:=u_1.lt
  rw [h3]
  go_wp2_with fail
  refine calls_forget0 (W:=w1) ?_ ?_
  (focus (exact belBy))
  intro X2 hX2
  have sX2:=hX2.size
  refine (TA.out _).mono ?_
  rintro e w2 ⟨rfl,hb2⟩
  have s2:=hb2.size
  have hT2:=hX2.trans (hb2.mono sX2)
  have b_2:=b_1.trans (hT2.mono (by omega))
  have t_2:=Blk.past hT2 t_1
  have p_2:=Blk.past hT2 p_1
  have q_2:=Blk.past hT2 q_1
  have u_2:=Blk.past hT2 u_1
  clear t_1 p_1 q_1 u_1 b_1 cell_t froz_t lt_t cell_p froz_p lt_p cell_q froz_q lt_q cell_u froz_u lt_u hX2 hT2 hb2
  have cell_t:=t_2.cell
  have froz_t:=t_2.frozen
  have lt_t:=t_2.lt
  have cell_p:=p_2.cell
  have froz_p:=p_2.frozen
  have lt_p:=p_2.lt
  have cell_q:=q_2.cell
  have froz_q:=q_2.frozen
  have lt_q:=q_2.lt
  have cell_u:=u_2.cell
  have froz_u:=u_2.frozen
  have lt_u:=u_2.lt
  go_wp2_with fail
  refine calls_forget1 (W:=w2) (b0:=w2.heap.size) (t0:=27) (c0:=#[.int .i64 s,.int .i64 a1]) ?_ ?_ ?_
  (focus exact blkcBy)
  (focus (exact belBy))
  intro X3 x1_n hX3
  have sX3:=hX3.size
  have x1_lt:=x1_n.lt
  refine (TB.out _).mono ?_
  rintro e w3 ⟨rfl,hb3⟩
  have s3:=hb3.size
  have hT3:=hX3.trans (hb3.mono sX3)
  have b_3:=b_2.trans (hT3.mono (by omega))
  have t_3:=Blk.past hT3 t_2
  have p_3:=Blk.past hT3 p_2
  have q_3:=Blk.past hT3 q_2
  have u_3:=Blk.past hT3 u_2
  have x1_3:=Blk.past hb3 x1_n
  clear t_2 p_2 q_2 u_2 b_2 cell_t froz_t lt_t cell_p froz_p lt_p cell_q froz_q lt_q cell_u froz_u lt_u x1_n hX3 hT3 hb3
  have cell_t:=t_3.cell
  have froz_t:=t_3.frozen
  have lt_t:=t_3.lt
  have cell_p:=p_3.cell
  have froz_p:=p_3.frozen
  have lt_p:=p_3.lt
  have cell_q:=q_3.cell
  have froz_q:=q_3.frozen
  have lt_q:=q_3.lt
  have cell_u:=u_3.cell
  have froz_u:=u_3.frozen
  have lt_u:=u_3.lt
  have cell_x1:=x1_3.cell
  have froz_x1:=x1_3.frozen
  have lt_x1:=x1_3.lt
  go_wp2_with fail
  refine calls_forget1 (W:=w3) (b0:=w3.heap.size) (t0:=27) (c0:=#[.int .i64 s,.int .i64 a2]) ?_ ?_ ?_
  (focus exact blkcBy)
  (focus (exact belBy))
  intro X4 x2_n hX4
  have sX4:=hX4.size
  have x2_lt:=x2_n.lt
  refine (TC.out _).mono ?_
  rintro e w4 ⟨rfl,hb4⟩
  have s4:=hb4.size
  have hT4:=hX4.trans (hb4.mono sX4)
  have b_4:=b_3.trans (hT4.mono (by omega))
  have t_4:=Blk.past hT4 t_3
  have p_4:=Blk.past hT4 p_3
  have q_4:=Blk.past hT4 q_3
  have u_4:=Blk.past hT4 u_3
  have x1_4:=Blk.past hT4 x1_3
  have x2_4:=Blk.past hb4 x2_n
  clear t_3 p_3 q_3 u_3 x1_3 b_3 cell_t froz_t lt_t cell_p froz_p lt_p cell_q froz_q lt_q cell_u froz_u lt_u cell_x1 froz_x1 lt_x1 x2_n hX4 hT4 hb4
  have cell_t:=t_4.cell
  have froz_t:=t_4.frozen
  have lt_t:=t_4.lt
  have cell_p:=p_4.cell
  have froz_p:=p_4.frozen
  have lt_p:=p_4.lt
  have cell_q:=q_4.cell
  have froz_q:=q_4.frozen
  have lt_q:=q_4.lt
  have cell_u:=u_4.cell
  have froz_u:=u_4.frozen
  have lt_u:=u_4.lt
  have cell_x1:=x1_4.cell
  have froz_x1:=x1_4.frozen
  have lt_x1:=x1_4.lt
  have cell_x2:=x2_4.cell
  have froz_x2:=x2_4.frozen
  have lt_x2:=x2_4.lt
  go_upto_region 9 with fail
  refine wp_forget1 (w0:=w4) (B:=w4.heap.size) (b0:=w4.heap.size) (t0:=27) (c0:=#[.int .i64 s,.int .i64 a3]) ?_ ?_ ?_
  (focus exact blkcBy)
  (focus (exact belBy))
  intro w5 x3_5 hX5
  have sX5:=hX5.size
  have x3_lt:=x3_5.lt
  have b_5:=b_4.trans (hX5.mono (by omega))
  have t_5:=Blk.past hX5 t_4
  have p_5:=Blk.past hX5 p_4
  have q_5:=Blk.past hX5 q_4
  have u_5:=Blk.past hX5 u_4
  have x1_5:=Blk.past hX5 x1_4
  have x2_5:=Blk.past hX5 x2_4
  clear t_4 p_4 q_4 u_4 x1_4 x2_4 b_4 cell_t froz_t lt_t cell_p froz_p lt_p cell_q froz_q lt_q cell_u froz_u lt_u cell_x1 froz_x1 lt_x1 cell_x2 froz_x2 lt_x2 hX5
  have cell_t:=t_5.cell
  have froz_t:=t_5.frozen
  have lt_t:=t_5.lt
  have cell_p:=p_5.cell
  have froz_p:=p_5.frozen
  have lt_p:=p_5.lt
  have cell_q:=q_5.cell
  have froz_q:=q_5.frozen
  have lt_q:=q_5.lt
  have cell_u:=u_5.cell
  have froz_u:=u_5.frozen
  have lt_u:=u_5.lt
  have cell_x1:=x1_5.cell
  have froz_x1:=x1_5.frozen
  have lt_x1:=x1_5.lt
  have cell_x2:=x2_5.cell
  have froz_x2:=x2_5.frozen
  have lt_x2:=x2_5.lt
  have cell_x3:=x3_5.cell
  have froz_x3:=x3_5.frozen
  have lt_x3:=x3_5.lt
  go_wp2_with fail
  go_region_held3 (fun w'=>w'.cell? ⟨w4.heap.size,0,none⟩=some (.int .i64 s)∧w'.cell? ⟨w4.heap.size,1,none⟩=some (.int .i64 a3)) ((refine ⟨(Blk.cell (t:=27) (cs:=#[.int .i64 s,.int .i64 a3]) ?qx3 0),(Blk.cell ?qx3 1)⟩; (case qx3=>(exact blkBy)))) (fail)
  all_goals
   go_wp2_with fail
   ((try simp only [Exit.inBlock,Exit.then]); apply bodyPost_ret0; focus ((try simp only [results,Tryz.results141]); (try go_simp); (try rfl)))
   refine ⟨rfl,?_⟩
   exact belBy
open Go.RowKit
theorem iLab3' (a b d:Int) (c:Nat) (t:TypeId) (w:World) (n:Nat) (hn:n=w.heap.size) (ha:labelB a=true) (hb:labelB b=true) (hd:labelB d=true) :
  Calls Tryz.prog 110 #[.slice (some ⟨n,0,none⟩) 3 c] (w.alloc (.cells #[.int .i64 a,.int .i64 b,.int .i64 d] t)) fun e w'=>e=.returned (.bool true)∧(w.alloc (.cells #[.int .i64 a,.int .i64 b,.int .i64 d] t))=w':=by
 subst hn
 exact iLab3 a b d c t w ha hb hd
theorem iLab4' (a b d f:Int) (c:Nat) (t:TypeId) (w:World) (n:Nat) (hn:n=w.heap.size) (ha:labelB a=true) (hb:labelB b=true) (hd:labelB d=true) (hf:labelB f=true) :
  Calls Tryz.prog 110 #[.slice (some ⟨n,0,none⟩) 4 c] (w.alloc (.cells #[.int .i64 a,.int .i64 b,.int .i64 d,.int .i64 f] t)) fun e w'=>e=.returned (.bool true)∧(w.alloc (.cells #[.int .i64 a,.int .i64 b,.int .i64 d,.int .i64 f] t))=w':=by
 subst hn
 exact iLab4 a b d f c t w ha hb hd hf
theorem iOtAsk (b c r:Int) (w:World) (hb:inB b 0 1=true) (hc:inB c 0 1=true) :
  Calls Tryz.prog 101 #[.int .i64 b,.agg #[.int .i64 c,.int .i64 r]] w fun e w'=>e=.returned (.int .i64 (bits .xor .i64 b c))∧Below w.heap.size w w':=by
 go_enter Tryz.func101,Tryz.ntmps101
 go_wp2_with (go_at_call 56; refine (iWithin _ _ _ _).mono ?_; rintro e w' ⟨rfl,rfl⟩)
 go_ret
 refine ⟨rfl,?_⟩
 exact belBy
theorem sOtAsk (b c r:Int) (w:World) (hb:inB b 0 1=true) (hc:inB c 0 1=true) :
  Calls Tryz.prog 143 #[.int .i64 b,.agg #[.int .i64 c,.int .i64 r]] w fun e w'=>e=.returned (.int .i64 (bits .xor .i64 b c))∧Below w.heap.size w w':=by
 go_enter Tryz.func143,Tryz.ntmps143
 go_wp2_with (go_at_call 123; refine (sWithin _ _ _ _).mono ?_; rintro e w' ⟨rfl,rfl⟩)
 go_ret
 refine ⟨rfl,?_⟩
 exact belBy
set_option maxHeartbeats 1600000 in
theorem iOtReply (m0 m1 r0 r1 d:Int) (w:World) (h0:labelB m0=true) (h1:labelB m1=true) (h2:labelB r0=true) (h3:labelB r1=true) (hd:inB d 0 1=true) :
  Calls Tryz.prog 99 #[.int .i64 m0,.int .i64 m1,.agg #[.int .i64 r0,.int .i64 r1],.int .i64 d] w fun e w'=>e=.returned (.tuple #[.int .i64 (replyI m0 r0 r1 d),.int .i64 (replyI m1 r1 r0 d)])∧Below w.heap.size w w':=by
 rcases bit_cases hd with rfl | rfl
 ·go_enter Tryz.func99,Tryz.ntmps99
  have b_0:=(Below.refl w.heap.size w)
  have s_0:=b_0.size
  go_upto_region 5 with (first | (go_at_call 110; refine (iLab4' _ _ _ _ _ _ _ _ (by simp) h0 h1 h2 h3).mono ?_; rintro e w' ⟨rfl,rfl⟩) | (go_at_call 56; refine (iWithin _ _ _ _).mono ?_; rintro e w' ⟨rfl,rfl⟩))
  refine wp_forget1 (w0:=w) (B:=w.heap.size) (b0:=w.heap.size) (t0:=124) (c0:=#[.int .i64 r0,.int .i64 r1]) ?_ ?_ ?_
  (focus exact blkcBy)
  (focus (exact belBy))
  intro w1 x_1 hX1
  have sX1:=hX1.size
  have x_lt:=x_1.lt
  have b_1:=b_0.trans (hX1.mono (by omega))
  clear b_0 hX1
  have cell_x:=x_1.cell
  have froz_x:=x_1.frozen
  have lt_x:=x_1.lt
  go_wp2_with fail
  go_region_held3 (fun w'=>w'.cell? ⟨w.heap.size,0,none⟩=some (.int .i64 r0)∧w'.cell? ⟨w.heap.size,1,none⟩=some (.int .i64 r1)) ((refine ⟨(Blk.cell (t:=124) (cs:=#[.int .i64 r0,.int .i64 r1]) ?qx 0),(Blk.cell ?qx 1)⟩; (case qx=>(exact blkBy)))) (fail)
  all_goals
   go_wp2_with fail
   ((try simp only [Exit.inBlock,Exit.then]); apply bodyPost_ret0; focus ((try simp only [results,Tryz.results99]); (try go_simp); (try rfl)))
   refine ⟨rfl,?_⟩
   exact belBy
 ·go_enter Tryz.func99,Tryz.ntmps99
  have b_0:=(Below.refl w.heap.size w)
  have s_0:=b_0.size
  go_upto_region 4 with (first | (go_at_call 110; refine (iLab4' _ _ _ _ _ _ _ _ (by simp) h0 h1 h2 h3).mono ?_; rintro e w' ⟨rfl,rfl⟩) | (go_at_call 56; refine (iWithin _ _ _ _).mono ?_; rintro e w' ⟨rfl,rfl⟩))
  refine wp_forget1 (w0:=w) (B:=w.heap.size) (b0:=w.heap.size) (t0:=124) (c0:=#[.int .i64 r0,.int .i64 r1]) ?_ ?_ ?_
  (focus exact blkcBy)
  (focus (exact belBy))
  intro w1 x_1 hX1
  have sX1:=hX1.size
  have x_lt:=x_1.lt
  have b_1:=b_0.trans (hX1.mono (by omega))
  clear b_0 hX1
  have cell_x:=x_1.cell
  have froz_x:=x_1.frozen
  have lt_x:=x_1.lt
  go_wp2_with fail
  go_region_held3 (fun w'=>w'.cell? ⟨w.heap.size,0,none⟩=some (.int .i64 r0)∧w'.cell? ⟨w.heap.size,1,none⟩=some (.int .i64 r1)) ((refine ⟨(Blk.cell (t:=124) (cs:=#[.int .i64 r0,.int .i64 r1]) ?qx 0),(Blk.cell ?qx 1)⟩; (case qx=>(exact blkBy)))) (fail)
  all_goals
   go_wp2_with fail
   ((try simp only [Exit.inBlock,Exit.then]); apply bodyPost_ret0; focus ((try simp only [results,Tryz.results99]); (try go_simp); (try rfl)))
   refine ⟨rfl,?_⟩
   exact belBy
set_option maxHeartbeats 1600000 in
theorem sOtReply (m0 m1 r0 r1 d:Int) (w:World) (h0:labelB m0=true) (h1:labelB m1=true) (h2:labelB r0=true) (h3:labelB r1=true) (hd:inB d 0 1=true) :
  Calls Tryz.prog 142 #[.int .i64 m0,.int .i64 m1,.agg #[.int .i64 r0,.int .i64 r1],.int .i64 d] w fun e w'=>e=.returned (.tuple #[.int .i64 (replyI m0 r0 r1 d),.int .i64 (replyI m1 r1 r0 d)])∧Below w.heap.size w w':=by
 rcases bit_cases hd with rfl | rfl
 ·go_enter Tryz.func142,Tryz.ntmps142
  have b_0:=(Below.refl w.heap.size w)
  have s_0:=b_0.size
  go_upto_region 5 with (first | (go_at_call 180; refine (sIsLabel _ _).mono ?_; rintro e w' ⟨rfl,rfl⟩) | (go_at_call 123; refine (sWithin _ _ _ _).mono ?_; rintro e w' ⟨rfl,rfl⟩))
  refine wp_forget1 (w0:=w) (B:=w.heap.size) (b0:=w.heap.size) (t0:=124) (c0:=#[.int .i64 r0,.int .i64 r1]) ?_ ?_ ?_
  (focus exact blkcBy)
  (focus (exact belBy))
  intro w1 x_1 hX1
  have sX1:=hX1.size
  have x_lt:=x_1.lt
  have b_1:=b_0.trans (hX1.mono (by omega))
  clear b_0 hX1
  have cell_x:=x_1.cell
  have froz_x:=x_1.frozen
  have lt_x:=x_1.lt
  go_wp2_with fail
  go_region_held3 (fun w'=>w'.cell? ⟨w.heap.size,0,none⟩=some (.int .i64 r0)∧w'.cell? ⟨w.heap.size,1,none⟩=some (.int .i64 r1)) ((refine ⟨(Blk.cell (t:=124) (cs:=#[.int .i64 r0,.int .i64 r1]) ?qx 0),(Blk.cell ?qx 1)⟩; (case qx=>(exact blkBy)))) (fail)
  all_goals
   go_wp2_with fail
   ((try simp only [Exit.inBlock,Exit.then]); apply bodyPost_ret0; focus ((try simp only [results,Tryz.results142]); (try go_simp); (try rfl)))
   refine ⟨rfl,?_⟩
   exact belBy
 ·go_enter Tryz.func142,Tryz.ntmps142
  have b_0:=(Below.refl w.heap.size w)
  have s_0:=b_0.size
  go_upto_region 4 with (first | (go_at_call 180; refine (sIsLabel _ _).mono ?_; rintro e w' ⟨rfl,rfl⟩) | (go_at_call 123; refine (sWithin _ _ _ _).mono ?_; rintro e w' ⟨rfl,rfl⟩))
  refine wp_forget1 (w0:=w) (B:=w.heap.size) (b0:=w.heap.size) (t0:=124) (c0:=#[.int .i64 r0,.int .i64 r1]) ?_ ?_ ?_
  (focus exact blkcBy)
  (focus (exact belBy))
  intro w1 x_1 hX1
  have sX1:=hX1.size
  have x_lt:=x_1.lt
  have b_1:=b_0.trans (hX1.mono (by omega))
  clear b_0 hX1
  have cell_x:=x_1.cell
  have froz_x:=x_1.frozen
  have lt_x:=x_1.lt
  go_wp2_with fail
  go_region_held3 (fun w'=>w'.cell? ⟨w.heap.size,0,none⟩=some (.int .i64 r0)∧w'.cell? ⟨w.heap.size,1,none⟩=some (.int .i64 r1)) ((refine ⟨(Blk.cell (t:=124) (cs:=#[.int .i64 r0,.int .i64 r1]) ?qx 0),(Blk.cell ?qx 1)⟩; (case qx=>(exact blkBy)))) (fail)
  all_goals
   go_wp2_with fail
   ((try simp only [Exit.inBlock,Exit.then]); apply bodyPost_ret0; focus ((try simp only [results,Tryz.results142]); (try go_simp); (try rfl)))
   refine ⟨rfl,?_⟩
   exact belBy
set_option maxHeartbeats 1600000 in
theorem iOtReceive (e0 e1 b c r:Int) (w:World) (h0:labelB e0=true) (h1:labelB e1=true) (hr:labelB r=true) (hb:inB b 0 1=true) :
  Calls Tryz.prog 102 #[.int .i64 e0,.int .i64 e1,.int .i64 b,.agg #[.int .i64 c,.int .i64 r]] w fun e w'=>e=.returned (.int .i64 (recvI e0 e1 b r))∧Below w.heap.size w w':=by
 have hs0:=hid (xor_swap h0 hr)
 have hs1:=hid (xor_swap h1 hr)
 rcases bit_cases hb with rfl | rfl
 all_goals
  go_enter Tryz.func102,Tryz.ntmps102
  go_wp2_with (first | (go_at_call 110; refine (iLab3' _ _ _ _ _ _ _ (by simp) h0 h1 hr).mono ?_; rintro e w' ⟨rfl,rfl⟩) | (go_at_call 56; refine (iWithin _ _ _ _).mono ?_; rintro e w' ⟨rfl,rfl⟩))
  go_ret
  refine ⟨ret_int (by first | exact hs0.out.symm | exact hs1.out.symm),?_⟩
  exact belBy
set_option maxHeartbeats 1600000 in
theorem sOtReceive (e0 e1 b c r:Int) (w:World) (h0:labelB e0=true) (h1:labelB e1=true) (hr:labelB r=true) (hb:inB b 0 1=true) :
  Calls Tryz.prog 144 #[.int .i64 e0,.int .i64 e1,.int .i64 b,.agg #[.int .i64 c,.int .i64 r]] w fun e w'=>e=.returned (.int .i64 (recvI e0 e1 b r))∧Below w.heap.size w w':=by
 rcases bit_cases hb with rfl | rfl
 all_goals
  go_enter Tryz.func144,Tryz.ntmps144
  go_wp2_with (first | (go_at_call 180; refine (sIsLabel _ _).mono ?_; rintro e w' ⟨rfl,rfl⟩) | (go_at_call 123; refine (sWithin _ _ _ _).mono ?_; rintro e w' ⟨rfl,rfl⟩))
  go_ret
  refine ⟨rfl,?_⟩
  exact belBy
end Go.Proofs.YtihbaieiempjeaaGreat
