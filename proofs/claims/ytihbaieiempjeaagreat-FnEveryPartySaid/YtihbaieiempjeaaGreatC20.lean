/- Lemmas of the proof: Act, Trans4, RunS. -/
import Derived.Test.YtihbaieiempjeaaGreatC0
import Derived.Outline
import Derived.Deep.RegionHeld3
import Derived.Test.YtihbaieiempjeaaGreatC19
import Derived.Test.YtihbaieiempjeaaGreatC12
import Derived.Test.YtihbaieiempjeaaGreatC4
namespace Go.Proofs.YtihbaieiempjeaaGreat
open Go.RowKit
set_option maxHeartbeats 800000 in
theorem iPartyBits (p:Int) (w:World):Calls Tryz.prog 96 #[.int .i64 p] w (GivesInts w (partyL p)):=by
 have hR:partyL p=if inB p 0 4 then partyTo p 16 else []:=rfl
 have HR:=hid hR
 clear hR
 cases h1:inB p 0 4
 ·go_enter Tryz.func96,Tryz.ntmps96
  go_wp2_with (go_at_call 56; refine (iWithin _ _ _ _).mono ?_; rintro e w' ⟨rfl,rfl⟩)
  go_ret
  rw [HR.out,h1]
  exact ⟨none,0,rfl,World.ownsRow_nil _ _ _ _,Below.refl _ _⟩
 ·obtain ⟨hp0,hp1⟩:=inB_iff.1 h1
  go_enter Tryz.func96,Tryz.ntmps96
  go_wp2_with (go_at_call 56; refine (iWithin _ _ _ _).mono ?_; rintro e w' ⟨rfl,rfl⟩)
  go_loopw [3,4] (fun o i wr=>∃ (j:Nat) (A':Option Addr) (c':Nat),j≤16∧i=.int .i64 j∧o=.slice A' j c'∧wr.ownsRow w.heap.size 3 1 (.slice A' j c') j (ints (partyTo p j))∧Below w.heap.size w wr) (fun _ i _=>16 - (intOf i).toNat)
  case atStart=>exact ⟨0,some ⟨w.heap.size,0,none⟩,0,Nat.zero_le _,rfl,rfl,World.ownsRow_lit (size:=1) _ #[] 0 (Nat.le_refl _) (Nat.zero_le _) rfl,(Below.refl _ _).alloc (Nat.le_refl _) _⟩
  case round =>
   obtain ⟨j,A',c',hj,rfl,rfl,hown,hb⟩:=hrel
   have HO:=hid hown
   have HB:=hid hb
   have hsz:=hb.size
   clear hown hb
   by_cases hlt:j < 16
   ·have hlt':(j:Int) < 16:=by omega
    go_wp2_with (at_builtin; refine wpList_app _ rfl _ _ 30 rfl w.heap.size 3 (.int .i64 0) 1 8 Tryz.underlying30 infoInt rfl (by decide) _ j _ rfl (HO.out.alloc _) ⟨wr.heap.size,0,none⟩ 1 1 _ rfl rfl (one_new _ _ _) (one_one _) (by omega) (by decide) (by simp; omega) ?_)
    intro A2 c2 w2 hown2 hg2
    have hb2:=below_app HB.out hsz HO.out (Nat.le_refl _) hg2
    rw [←ints_snoc] at hown2
    have HO2:=hid hown2
    have HB2:=hid hb2
    clear hown2 hg2 hb2
    go_wp2
    go_roundw
    case rel=>exact ⟨j + 1,A2,c2,by omega,by go_num,rfl,HO2.out,HB2.out⟩
    case measure=>simp [intOf]; omega
   ·obtain rfl:j=16:=by omega
    go_wp2
    go_ret
    have e:partyL p=partyTo p 16:=by rw [HR.out,h1]; rfl
    have el:(partyTo p 16).length=16:=partyTo_length _ _
    unfold GivesInts
    rw [e,el]
    exact ⟨A',c',rfl,HO.out,HB.out⟩
open Go.RowKit
def lbtB (s a s' a':Int) (bs:List Int) (p:Int):Bool:=decide (bs.length=80) && bitsB bs && inB p 0 4 && tapeOkB s a && tapeOkB s' a' && decide (a≤800000) && decide (a'≤800000)
def lbtL (s a s' a':Int) (bs:List Int) (p:Int):List Int:=if lbtB s a s' a' bs p then labsTo s a bs 80 else []
def GivesPair (w:World) (xs:List Int) (b:Bool) (e:Ending) (w':World):Prop :=
 ∃ A c,e=.returned (.tuple #[.slice A xs.length c,.bool b])∧w'.ownsRow w.heap.size 3 1 (.slice A xs.length c) xs.length (ints xs)∧Below w.heap.size w w'
theorem partyTo_get (p:Int) (k:Nat):∀ j,k < j→(partyTo p j)[k]? = some (16 * p + k)
 | 0,h=>absurd h (by omega)
 | j + 1,h=>by
  rw [partyTo,List.getElem?_append]
  by_cases hk:k < j
  ·rw [if_pos (by rw [partyTo_length]; exact hk)]
   exact partyTo_get p k j hk
  ·have e:k=j:=by omega
   subst e
   rw [if_neg (by rw [partyTo_length]; omega),partyTo_length]
   simp
theorem tape_shift {s a:Int} {j:Nat} (h1:tapeOkB s a=true) (h2:a≤800000) (hj:j≤16):tapeOkB s (a + 3 * j)=true:=by
 have ha:=tapeOkB_range h1
 unfold tapeOkB at *
 simp only [Bool.and_eq_true] at *
 exact ⟨h1.1,inB_iff.2 (by omega)⟩
theorem set_same {xs:List Int} {k:Nat} {x:Int} (h:xs[k]? = some x):xs.set k x=xs:=by
 obtain ⟨hk,rfl⟩:=List.getElem?_eq_some_iff.1 h
 exact List.set_getElem_self hk
theorem ints_put (xs:List Int) (k:Nat) (x:Int):(ints xs).set k (.int .i64 x)=ints (xs.set k x):=by simp [ints,List.map_set]
theorem dealA_label (s a:Int):labelB (dealA s a)=true:=below_label _ _ _
theorem dealB_label (s a:Int):labelB (dealB s a)=true:=below_label _ _ _
set_option maxRecDepth 100000 in
set_option maxHeartbeats 3200000 in
theorem iTransYes (s a s' a':Int) (A:Option Addr) (c:Nat) (bs:List Int) (p:Int) (w:World) (hc:Cells w w.heap.size A (ints bs)) (hl:bs.length=80) (hb:bitsB bs=true) (hp:inB p 0 4=true) (h1:tapeOkB s a=true) (h2:a≤800000) (h3:tapeOkB s' a'=true) (h4:a'≤800000) :
  Calls Tryz.prog 47 #[.agg #[.int .i64 s,.int .i64 a],.agg #[.int .i64 s',.int .i64 a'],.slice A 80 c,.int .i64 p] w (GivesPair w (labsTo s a bs 80) true):=by
 have HBI:=hid (fun (k:Nat) (x:Int) (h:bs[k]? = some x)=>bitsB_get hb h)
 have HBS:=hid (fun w hc=>iBits A c bs w hc (by omega))
 rw [hb] at HBS
 have HIL:=hid (fun w hc=>iInputLabels s a A c bs w h1 (by omega) hb (by omega) hc)
 unfold GivesInts at HIL
 have hpl:partyL p=partyTo p 16:=by unfold partyL; rw [hp]; rfl
 have HPB:=hid (fun w=>iPartyBits p w)
 unfold GivesInts at HPB
 rw [hpl,partyTo_length] at HPB
 rw [hl] at HIL HBS
 rw [labsTo_length] at HIL
 have HD:=hid (fun w=>iDeltaOf s a w h1 (by omega))
 have HZ:=hid (fun k w h=>iInputZero s a k w h1 h)
 have HTK:=hid (fun (j:Nat) (hj:j≤16)=>tape_shift h3 h4 hj)
 have HOD:=hid (fun (j:Nat) w (hj:j≤16)=>iOtDeal s' (a' + 3 * j) w (tape_shift h3 h4 hj) (by omega))
 have g2:decide (800000 < a)=false:=by simp; omega
 have g4:decide (800000 < a')=false:=by simp; omega
 have HC:=hid hc
 have HL:=hid hl
 have H4:=hid h4
 obtain ⟨hp0,hp1⟩:=inB_iff.1 hp
 obtain ⟨P,rfl⟩:=Int.eq_ofNat_of_zero_le hp0
 have hP4:P≤4:=by omega
 clear hb hc h2 h4 hpl hp0 hp1 hl
 have hq0:=HC.out
 go_enter Tryz.func47,Tryz.ntmps47
 have b_0:=(Below.refl w.heap.size w)
 have s_0:=b_0.size
 have q_0:=hq0
 clear hq0
 go_wp2_with fail
 refine calls_forget2 (W:=w) (b0:=w.heap.size) (t0:=27) (c0:=#[.int .i64 s,.int .i64 a]) (b1:=w.heap.size + 1) (t1:=27) (c1:=#[.int .i64 s',.int .i64 a']) ?_ ?_ ?_ ?_
 (focus exact blkcBy)
 (focus exact blkcBy)
 (focus (exact belBy))
 intro X1 t_n d_n hX1
 have sX1:=hX1.size
 have t_lt:=t_n.lt
 have d_lt:=d_n.lt
 refine (HBS.out _ ((cells_below q_0 hX1 (by omega)).more (by omega))).mono ?_
 rintro e w' ⟨rfl,rfl⟩
 have b_1:=b_0.trans (hX1.mono (by omega))
 have q_1:=cells_below q_0 hX1 (by omega)
 have t_1:=t_n
 have d_1:=d_n
 clear q_0 b_0 t_n d_n hX1
 have cell_t:=t_1.cell
 have froz_t:=t_1.frozen
 have lt_t:=t_1.lt
 have cell_d:=d_1.cell
 have froz_d:=d_1.frozen
 have lt_d:=d_1.lt
 go_wp2_with fail
 refine calls_forget0 (W:=X1) ?_ ?_
 (focus (exact belBy))
 intro X2 hX2
 have sX2:=hX2.size
 refine (iWithin _ _ _ _).mono ?_
 rintro e w' ⟨rfl,rfl⟩
 have b_2:=b_1.trans (hX2.mono (by omega))
 have q_2:=cells_below q_1 hX2 (by omega)
 have t_2:=Blk.past hX2 t_1
 have d_2:=Blk.past hX2 d_1
 clear q_1 t_1 d_1 b_1 cell_t froz_t lt_t cell_d froz_d lt_d hX2
 have cell_t:=t_2.cell
 have froz_t:=t_2.frozen
 have lt_t:=t_2.lt
 have cell_d:=d_2.cell
 have froz_d:=d_2.frozen
 have lt_d:=d_2.lt
 go_wp2_with fail
 refine calls_forget0 (W:=X2) ?_ ?_
 (focus (exact belBy))
 intro X3 hX3
 have sX3:=hX3.size
 refine (iTapeOk _ _ _).mono ?_
 rintro e w3 ⟨rfl,hb3⟩
 have s3:=hb3.size
 have hT3:=hX3.trans (hb3.mono sX3)
 have b_3:=b_2.trans (hT3.mono (by omega))
 have q_3:=cells_below q_2 hT3 (by omega)
 have t_3:=Blk.past hT3 t_2
 have d_3:=Blk.past hT3 d_2
 clear q_2 t_2 d_2 b_2 cell_t froz_t lt_t cell_d froz_d lt_d hX3 hT3 hb3
 have cell_t:=t_3.cell
 have froz_t:=t_3.frozen
 have lt_t:=t_3.lt
 have cell_d:=d_3.cell
 have froz_d:=d_3.frozen
 have lt_d:=d_3.lt
 go_wp2_with fail
 refine calls_forget0 (W:=w3) ?_ ?_
 (focus (exact belBy))
 intro X4 hX4
 have sX4:=hX4.size
 refine (iTapeOk _ _ _).mono ?_
 rintro e w4 ⟨rfl,hb4⟩
 have s4:=hb4.size
 have hT4:=hX4.trans (hb4.mono sX4)
 have b_4:=b_3.trans (hT4.mono (by omega))
 have q_4:=cells_below q_3 hT4 (by omega)
 have t_4:=Blk.past hT4 t_3
 have d_4:=Blk.past hT4 d_3
 clear q_3 t_3 d_3 b_3 cell_t froz_t lt_t cell_d froz_d lt_d hX4 hT4 hb4
 have cell_t:=t_4.cell
 have froz_t:=t_4.frozen
 have lt_t:=t_4.lt
 have cell_d:=d_4.cell
 have froz_d:=d_4.frozen
 have lt_d:=d_4.lt
 go_wp2_with fail
 refine calls_forget0 (W:=w4) ?_ ?_
 (focus (exact belBy))
 intro X5 hX5
 have sX5:=hX5.size
 refine (HIL.out _ ((cells_below q_4 hX5 (by omega)).more (by omega))).mono ?_
 rintro e w5 ⟨Ao,co,rfl,o_5,hb5⟩
 have s5:=hb5.size
 have hT5:=hX5.trans (hb5.mono sX5)
 have b_5:=b_4.trans (hT5.mono (by omega))
 have q_5:=cells_below q_4 hT5 (by omega)
 have t_5:=Blk.past hT5 t_4
 have d_5:=Blk.past hT5 d_4
 have o_in:=own_in o_5
 clear q_4 t_4 d_4 b_4 cell_t froz_t lt_t cell_d froz_d lt_d hX5 hT5 hb5
 have cell_t:=t_5.cell
 have froz_t:=t_5.frozen
 have lt_t:=t_5.lt
 have cell_d:=d_5.cell
 have froz_d:=d_5.frozen
 have lt_d:=d_5.lt
 go_wp2_with fail
 refine calls_forget0 (W:=w5) ?_ ?_
 (focus (exact belBy))
 intro X6 hX6
 have sX6:=hX6.size
 refine (HD.out _).mono ?_
 rintro e w6 ⟨rfl,hb6⟩
 have s6:=hb6.size
 have hT6:=hX6.trans (hb6.mono sX6)
 have b_6:=b_5.trans (hT6.mono (by omega))
 have q_6:=cells_below q_5 hT6 (by omega)
 have o_6:=own_below o_5 hT6
 have t_6:=Blk.past hT6 t_5
 have d_6:=Blk.past hT6 d_5
 clear q_5 o_5 t_5 d_5 b_5 cell_t froz_t lt_t cell_d froz_d lt_d hX6 hT6 hb6
 have cell_t:=t_6.cell
 have froz_t:=t_6.frozen
 have lt_t:=t_6.lt
 have cell_d:=d_6.cell
 have froz_d:=d_6.frozen
 have lt_d:=d_6.lt
 go_wp2_with fail
 refine calls_forget0 (W:=w6) ?_ ?_
 (focus (exact belBy))
 intro X7 hX7
 have sX7:=hX7.size
 refine (HPB.out _).mono ?_
 rintro e w7 ⟨Ap,cp,rfl,pp_7,hb7⟩
 have s7:=hb7.size
 have hT7:=hX7.trans (hb7.mono sX7)
 have b_7:=b_6.trans (hT7.mono (by omega))
 have q_7:=cells_below q_6 hT7 (by omega)
 have o_7:=own_below o_6 hT7
 have t_7:=Blk.past hT7 t_6
 have d_7:=Blk.past hT7 d_6
 have pp_in:=own_in pp_7
 clear q_6 o_6 t_6 d_6 b_6 cell_t froz_t lt_t cell_d froz_d lt_d hX7 hT7 hb7
 have cell_t:=t_7.cell
 have froz_t:=t_7.frozen
 have lt_t:=t_7.lt
 have cell_d:=d_7.cell
 have froz_d:=d_7.frozen
 have lt_d:=d_7.lt
 have HT:=hid t_7
 have HDD:=hid d_7
 have HO:=hid o_7
 have HPP:=hid pp_7
 have HB:=hid b_7
 obtain ⟨go,rfl,hgo0⟩:=own_at HO.out (by omega)
 clear hgo0
 obtain ⟨gp,rfl,hgp0⟩:=own_at HPP.out (by omega)
 clear hgp0
 have hgo:=o_in go rfl
 have hgp:=pp_in gp rfl
 have HOI:=hid o_in
 have HPI:=hid pp_in
 clear t_7 d_7 o_7 pp_7 b_7 q_7 cell_t froz_t cell_d froz_d o_in pp_in
 go_wp2
 go_loopw [14,15,16,17,18,19,20,65] (fun _ _ _ _ _ _ _ i wr=>∃ j:Nat,j≤16∧i=.int .i64 j∧Blk wr w.heap.size 27 #[.int .i64 s,.int .i64 a]∧Blk wr (w.heap.size + 1) 27 #[.int .i64 s',.int .i64 (a' + 3 * j)]∧wr.ownsRow X5.heap.size 3 1 (.slice (some ⟨go,0,none⟩) 80 co) 80 (ints (labsTo s a bs 80)) ∧
  wr.ownsRow X7.heap.size 3 1 (.slice (some ⟨gp,0,none⟩) 16 cp) 16 (ints (partyTo P 16))∧Below w.heap.size w wr) (fun _ _ _ _ _ _ _ i _=>16 - (intOf i).toNat)
 case atStart=>exact ⟨0,by omega,rfl,by have h:=HT.out; exact blkcBy,by rw [show a' + 3 * ((0:Nat):Int)=a' by omega]; have h:=HDD.out; exact blkcBy,by have h:=HO.out; exact ownBy,by have h:=HPP.out; exact ownBy,by have h:=HB.out; exact belBy⟩
 case round =>
  obtain ⟨j,hj,rfl,ht,hd,ho,hpp,hb⟩:=hrel
  by_cases hlt:j < 16
  ·have hlt':(j:Int) < 16:=by omega
   obtain ⟨K,hK⟩:∃ K,16 * P + j=K:=⟨_,rfl⟩
   have hK80:K < 80:=by omega
   have hKi:(K:Int) < 80:=by omega
   obtain ⟨x,hx⟩:∃ x,bs[K]? = some x:=⟨_,List.getElem?_eq_getElem (by have:=HL.out; omega)⟩
   obtain ⟨b,off,rfl,hB,hcl⟩:=HC.out (by rw [ints_length]; have:=HL.out; omega)
   have hcell:wr.cell? ⟨b,off + K,none⟩=some (.int .i64 x):=(hb.cell (p:=⟨b,off + K,none⟩) hB).trans (hcl K _ (ints_get hx))
   have hpc:wr.cell? ⟨gp,j,none⟩=some (.int .i64 (K:Int)):=by
    rw [hpp.cellAt j (by omega),show ((K:Nat):Int)=16 * (P:Int) + (j:Int) by omega]
    exact ints_get (partyTo_get _ _ _ hlt)
   have hbit:=HBI.out K x hx
   have HBIT:=hid hbit
   have hgl:=labsTo_get s a bs K 80 hK80
   rw [getD_at hx] at hgl
   have HGL:=hid hgl
   have zr:=hb.size
   have hjle:j≤16:=by omega
   have hga:go < wr.heap.size:=(ho.lt go rfl).2
   clear hcl hx hbit hgl
   have b_10:=hb
   have s_10:=b_10.size
   have o_in:=HOI.out
   have o_10:=ho
   clear ho
   have pp_in:=HPI.out
   have pp_10:=hpp
   clear hpp
   have t_10:=ht
   clear ht
   have t_lt:=t_10.lt
   have cell_t:=t_10.cell
   have froz_t:=t_10.frozen
   have lt_t:=t_10.lt
   have d_10:=hd
   clear hd
   have d_lt:=d_10.lt
   have cell_d:=d_10.cell
   have froz_d:=d_10.frozen
   have lt_d:=d_10.lt
   have q_10:=hcell
   clear hcell
   have lt_q:b < wr.heap.size:=by omega
   go_wp2_with fail
   refine calls_forget0 (W:=wr) ?_ ?_
   (focus (exact belBy))
   intro X11 hX11
   have sX11:=hX11.size
   refine (HOD.out j _ hjle).mono ?_
   rintro e w11 ⟨rfl,hb11⟩
   have s11:=hb11.size
   have hT11:=hX11.trans (hb11.mono sX11)
   have b_11:=b_10.trans (hT11.mono (by omega))
   have o_11:=own_below o_10 hT11
   have pp_11:=own_below pp_10 hT11
   have t_11:=Blk.past hT11 t_10
   have d_11:=Blk.past hT11 d_10
   have q_11:=cell_kept q_10 hT11 (by dsimp only; omega)
   clear o_10 pp_10 t_10 d_10 q_10 b_10 cell_t froz_t lt_t cell_d froz_d lt_d lt_q hX11 hT11 hb11
   have cell_t:=t_11.cell
   have froz_t:=t_11.frozen
   have lt_t:=t_11.lt
   have cell_d:=d_11.cell
   have froz_d:=d_11.frozen
   have lt_d:=d_11.lt
   have lt_q:b < w11.heap.size:=(by omega)
   go_upto_region 10 with fail
   refine wp_touch3 (w0:=w11) (L:=[w.heap.size + 1]) (b0:=w.heap.size + 1) (t0:=27) (c0:=#[.int .i64 s',.int .i64 (dealAt s' (a' + 3 * j))]) (b1:=w11.heap.size) (t1:=124) (c1:=#[.int .i64 (dealA s' (a' + 3 * j)),.int .i64 (dealB s' (a' + 3 * j))]) (b2:=w11.heap.size + 1) (t2:=126) (c2:=#[.int .i64 (dealC s' (a' + 3 * j)),.int .i64 (dealR s' (a' + 3 * j))]) ?_ ?_ ?_ ?_ ?_
   (focus exact blkcBy)
   (focus exact blkcBy)
   (focus exact blkcBy)
   (focus (exact tchBy))
   intro w12 d_12 x_12 y_12 hX12
   have sX12:=hX12.size
   have x_lt:=x_12.lt
   have y_lt:=y_12.lt
   have b_12:=hX12.below b_11 (by first | (simp; done) | (simp; omega))
   have o_12:=own_touch' hX12 o_11 (fun q hq=>by have h1:=o_in q hq; (try have e0:=own_ne_obj o_11 d_11 (by decide) q hq); simp; omega)
   have pp_12:=own_touch' hX12 pp_11 (fun q hq=>by have h1:=pp_in q hq; (try have e0:=own_ne_obj pp_11 d_11 (by decide) q hq); simp; omega)
   have t_12:=Blk.touch hX12 t_11 (by first | (simp; done) | (simp; omega))
   have q_12:=Touch.cell hX12 q_11 (by dsimp only; omega) (by first | (simp; done) | (simp; omega))
   clear o_11 pp_11 t_11 d_11 q_11 b_11 cell_t froz_t lt_t cell_d froz_d lt_d lt_q hX12
   have cell_t:=t_12.cell
   have froz_t:=t_12.frozen
   have lt_t:=t_12.lt
   have cell_d:=d_12.cell
   have froz_d:=d_12.frozen
   have lt_d:=d_12.lt
   have cell_x:=x_12.cell
   have froz_x:=x_12.frozen
   have lt_x:=x_12.lt
   have cell_y:=y_12.cell
   have froz_y:=y_12.frozen
   have lt_y:=y_12.lt
   have lt_q:b < w12.heap.size:=(by omega)
   go_wp2_with fail
   refine calls_forget0 (W:=w12) ?_ ?_
   (focus (exact belBy))
   intro X13 hX13
   have sX13:=hX13.size
   refine (HZ.out _ _ (inB_iff.2 (by omega))).mono ?_
   rintro e w13 ⟨rfl,hb13⟩
   have s13:=hb13.size
   have hT13:=hX13.trans (hb13.mono sX13)
   have b_13:=b_12.trans (hT13.mono (by omega))
   have o_13:=own_below o_12 hT13
   have pp_13:=own_below pp_12 hT13
   have t_13:=Blk.past hT13 t_12
   have d_13:=Blk.past hT13 d_12
   have x_13:=Blk.past hT13 x_12
   have y_13:=Blk.past hT13 y_12
   have q_13:=cell_kept q_12 hT13 (by dsimp only; omega)
   clear o_12 pp_12 t_12 d_12 x_12 y_12 q_12 b_12 cell_t froz_t lt_t cell_d froz_d lt_d cell_x froz_x lt_x cell_y froz_y lt_y lt_q hX13 hT13 hb13
   have cell_t:=t_13.cell
   have froz_t:=t_13.frozen
   have lt_t:=t_13.lt
   have cell_d:=d_13.cell
   have froz_d:=d_13.frozen
   have lt_d:=d_13.lt
   have cell_x:=x_13.cell
   have froz_x:=x_13.frozen
   have lt_x:=x_13.lt
   have cell_y:=y_13.cell
   have froz_y:=y_13.frozen
   have lt_y:=y_13.lt
   have lt_q:b < w13.heap.size:=(by omega)
   go_wp2_with fail
   go_region_held3 (fun w'=>w'.cell? ⟨w11.heap.size,0,none⟩=some (.int .i64 (dealA s' (a' + 3 * j)))∧w'.cell? ⟨w11.heap.size,1,none⟩=some (.int .i64 (dealB s' (a' + 3 * j)))∧w'.cell? ⟨w11.heap.size + 1,0,none⟩=some (.int .i64 (dealC s' (a' + 3 * j)))∧w'.cell? ⟨w11.heap.size + 1,1,none⟩=some (.int .i64 (dealR s' (a' + 3 * j)))∧w'.cell? ⟨b,off + K,none⟩=some (.int .i64 x)) ((refine ⟨(Blk.cell (t:=124) (cs:=#[.int .i64 (dealA s' (a' + 3 * j)),.int .i64 (dealB s' (a' + 3 * j))]) ?qx 0),(Blk.cell ?qx 1),(Blk.cell (t:=126) (cs:=#[.int .i64 (dealC s' (a' + 3 * j)),.int .i64 (dealR s' (a' + 3 * j))]) ?qy 0),(Blk.cell ?qy 1),(by first | ((repeat (first | (with_reducible assumption) | (with_reducible refine cell_drew ?_) | (with_reducible refine cell_alloc ?_ (by first | (dsimp only; omega) | (simp; omega))) | (with_reducible refine cell_far ?_ (by first | (dsimp only; omega) | (simp; omega))))); done) | exact cell_kept q_13 (by exact belBy) (by dsimp only; omega))⟩; (case qx=>(exact blkBy)); (case qy=>(exact blkBy)))) (first | (go_at_call 100; refine calls_forget0 (W:=w13) ?_ ?_; (focus (exact belBy)); intro X14 hX14; have sX14:=hX14.size; refine (iLabelFor _ _ _ _ (zero_label _ _) (delta_label _ _) (inB_iff.2 (by omega))).mono ?_; rintro e w14 ⟨rfl,hb14⟩; have s14:=hb14.size; have hT14:=hX14.trans (hb14.mono sX14); have b_14:=b_13.trans (hT14.mono (by omega)); have o_14:=own_below o_13 hT14; have pp_14:=own_below pp_13 hT14; have t_14:=Blk.past hT14 t_13; have d_14:=Blk.past hT14 d_13; have x_14:=Blk.past hT14 x_13; have y_14:=Blk.past hT14 y_13; have q_14:=cell_kept q_13 hT14 (by dsimp only; omega); clear o_13 pp_13 t_13 d_13 x_13 y_13 q_13 b_13 cell_t froz_t lt_t cell_d froz_d lt_d cell_x froz_x lt_x cell_y froz_y lt_y lt_q hX14 hT14 hb14; have cell_t:=t_14.cell; have froz_t:=t_14.frozen; have lt_t:=t_14.lt; have cell_d:=d_14.cell; have froz_d:=d_14.frozen; have lt_d:=d_14.lt; have cell_x:=x_14.cell; have froz_x:=x_14.frozen; have lt_x:=x_14.lt; have cell_y:=y_14.cell; have froz_y:=y_14.frozen; have lt_y:=y_14.lt; have lt_q:b < w14.heap.size:=(by omega)) | (go_at_call 100; refine calls_forget0 (W:=w14) ?_ ?_; (focus (exact belBy)); intro X15 hX15; have sX15:=hX15.size; refine (iLabelFor _ _ _ _ (zero_label _ _) (delta_label _ _) (inB_iff.2 (by omega))).mono ?_; rintro e w15 ⟨rfl,hb15⟩; have s15:=hb15.size; have hT15:=hX15.trans (hb15.mono sX15); have b_15:=b_14.trans (hT15.mono (by omega)); have o_15:=own_below o_14 hT15; have pp_15:=own_below pp_14 hT15; have t_15:=Blk.past hT15 t_14; have d_15:=Blk.past hT15 d_14; have x_15:=Blk.past hT15 x_14; have y_15:=Blk.past hT15 y_14; have q_15:=cell_kept q_14 hT15 (by dsimp only; omega); clear o_14 pp_14 t_14 d_14 x_14 y_14 q_14 b_14 cell_t froz_t lt_t cell_d froz_d lt_d cell_x froz_x lt_x cell_y froz_y lt_y lt_q hX15 hT15 hb15; have cell_t:=t_15.cell; have froz_t:=t_15.frozen; have lt_t:=t_15.lt; have cell_d:=d_15.cell; have froz_d:=d_15.frozen; have lt_d:=d_15.lt; have cell_x:=x_15.cell; have froz_x:=x_15.frozen; have lt_x:=x_15.lt; have cell_y:=y_15.cell; have froz_y:=y_15.frozen; have lt_y:=y_15.lt; have lt_q:b < w15.heap.size:=(by omega)) | (go_at_call 101; refine calls_forget0 (W:=w15) ?_ ?_; (focus (exact belBy)); intro X16 hX16; have sX16:=hX16.size; refine (iOtAsk _ _ _ _ HBIT.out (deal_c _ _)).mono ?_; rintro e w16 ⟨rfl,hb16⟩; have s16:=hb16.size; have hT16:=hX16.trans (hb16.mono sX16); have b_16:=b_15.trans (hT16.mono (by omega)); have o_16:=own_below o_15 hT16; have pp_16:=own_below pp_15 hT16; have t_16:=Blk.past hT16 t_15; have d_16:=Blk.past hT16 d_15; have x_16:=Blk.past hT16 x_15; have y_16:=Blk.past hT16 y_15; have q_16:=cell_kept q_15 hT16 (by dsimp only; omega); clear o_15 pp_15 t_15 d_15 x_15 y_15 q_15 b_15 cell_t froz_t lt_t cell_d froz_d lt_d cell_x froz_x lt_x cell_y froz_y lt_y lt_q hX16 hT16 hb16; have cell_t:=t_16.cell; have froz_t:=t_16.frozen; have lt_t:=t_16.lt; have cell_d:=d_16.cell; have froz_d:=d_16.frozen; have lt_d:=d_16.lt; have cell_x:=x_16.cell; have froz_x:=x_16.frozen; have lt_x:=x_16.lt; have cell_y:=y_16.cell; have froz_y:=y_16.frozen; have lt_y:=y_16.lt; have lt_q:b < w16.heap.size:=(by omega)) | (go_at_call 99; refine calls_forget0 (W:=w16) ?_ ?_; (focus (exact belBy)); intro X17 hX17; have sX17:=hX17.size; refine (iOtReply _ _ _ _ _ _ (lbl_label _ (zero_label _ _) (delta_label _ _)) (lbl_label _ (zero_label _ _) (delta_label _ _)) (dealA_label _ _) (dealB_label _ _) (ask_bit HBIT.out (deal_c _ _))).mono ?_; rintro e w17 ⟨rfl,hb17⟩; have s17:=hb17.size; have hT17:=hX17.trans (hb17.mono sX17); have b_17:=b_16.trans (hT17.mono (by omega)); have o_17:=own_below o_16 hT17; have pp_17:=own_below pp_16 hT17; have t_17:=Blk.past hT17 t_16; have d_17:=Blk.past hT17 d_16; have x_17:=Blk.past hT17 x_16; have y_17:=Blk.past hT17 y_16; have q_17:=cell_kept q_16 hT17 (by dsimp only; omega); clear o_16 pp_16 t_16 d_16 x_16 y_16 q_16 b_16 cell_t froz_t lt_t cell_d froz_d lt_d cell_x froz_x lt_x cell_y froz_y lt_y lt_q hX17 hT17 hb17; have cell_t:=t_17.cell; have froz_t:=t_17.frozen; have lt_t:=t_17.lt; have cell_d:=d_17.cell; have froz_d:=d_17.frozen; have lt_d:=d_17.lt; have cell_x:=x_17.cell; have froz_x:=x_17.frozen; have lt_x:=x_17.lt; have cell_y:=y_17.cell; have froz_y:=y_17.frozen; have lt_y:=y_17.lt; have lt_q:b < w17.heap.size:=(by omega)))
   go_upto_region 12 with fail
   refine wp_forget0 (w0:=w17) (B:=w17.heap.size) ?_ ?_
   (focus (exact belBy))
   intro w18 hX18
   have sX18:=hX18.size
   have b_18:=b_17.trans (hX18.mono (by omega))
   have o_18:=own_below o_17 hX18
   have pp_18:=own_below pp_17 hX18
   have t_18:=Blk.past hX18 t_17
   have d_18:=Blk.past hX18 d_17
   have x_18:=Blk.past hX18 x_17
   have y_18:=Blk.past hX18 y_17
   have q_18:=cell_kept q_17 hX18 (by dsimp only; omega)
   clear o_17 pp_17 t_17 d_17 x_17 y_17 q_17 b_17 cell_t froz_t lt_t cell_d froz_d lt_d cell_x froz_x lt_x cell_y froz_y lt_y lt_q hX18
   have cell_t:=t_18.cell
   have froz_t:=t_18.frozen
   have lt_t:=t_18.lt
   have cell_d:=d_18.cell
   have froz_d:=d_18.frozen
   have lt_d:=d_18.lt
   have cell_x:=x_18.cell
   have froz_x:=x_18.frozen
   have lt_x:=x_18.lt
   have cell_y:=y_18.cell
   have froz_y:=y_18.frozen
   have lt_y:=y_18.lt
   have lt_q:b < w18.heap.size:=(by omega)
   have hcy:w18.cell? ⟨go,K,none⟩=some (.int .i64 (lblI (zeroI s K) (deltaI s a) x)):=by rw [o_18.cellAt K (by omega)]; exact ints_get HGL.out
   have HOO:=hid o_18
   have HTT:=hid t_18
   have HDN:=hid d_18
   have HPN:=hid pp_18
   have HBB:=hid b_18
   have hwl:go < w18.heap.size:=by omega
   have hq2:=q_18
   have hW0:=Below.refl w18.heap.size w18
   have hy0:=cell_y 0
   have hy1:=cell_y 1
   clear o_18 t_18 d_18 pp_18 b_18 q_18
   go_region_with ((go_at_call 102; refine (iOtReceive _ _ _ _ _ _ (reply_label _ (lbl_label _ (zero_label _ _) (delta_label _ _)) (dealA_label _ _) (dealB_label _ _)) (reply_label _ (lbl_label _ (zero_label _ _) (delta_label _ _)) (dealB_label _ _) (dealA_label _ _)) (dealR_label _ _) HBIT.out).mono ?_; rintro e wz ⟨rfl,hbz⟩; have hX:Below w18.heap.size w18 wz:=(by exact belBy); have hcw:=cell_kept hcy hX hwl; have hfw:=(own_below HOO.out hX).frozenAt K))
   all_goals
    have hset:recvI (replyI (lblI (zeroI s K) (deltaI s a) 0) (dealA s' (a' + 3 * j)) (dealB s' (a' + 3 * j)) (bits .xor .i64 x (dealC s' (a' + 3 * j)))) (replyI (lblI (zeroI s K) (deltaI s a) 1) (dealB s' (a' + 3 * j)) (dealA s' (a' + 3 * j)) (bits .xor .i64 x (dealC s' (a' + 3 * j)))) x (dealR s' (a' + 3 * j))=lblI (zeroI s K) (deltaI s a) x :=
     recv_all (zero_label s K) (delta_label s a) (below_label s' (a' + 3 * j) 65536) (below_label s' (belowAt s' (a' + 3 * j) 65536) 65536) HBIT.out (deal_c s' (a' + 3 * j))
    rw [hset]
    have hst:=(own_below HOO.out hX).stored K (.int .i64 (lblI (zeroI s K) (deltaI s a) x))
    rw [ints_put,set_same HGL.out] at hst
    have hat:=deal_at (HTK.out j hjle) (by have:=H4.out; omega)
    rw [show a' + 3 * (j:Int) + 3=a' + 3 * ((j + 1:Nat):Int) by omega] at hat
    have hdn:=HDN.out
    rw [hat] at hdn
    have hsz:=hX.size
    have KT:=hid (gr_blk hst.2 (Blk.past hX HTT.out) (fun q hq=>by have:=HOI.out q hq; omega))
    have KD:=hid (gr_blk hst.2 (Blk.past hX hdn) (fun q hq=>by have:=HOI.out q hq; omega))
    have KP:=hid (gr_own hst.2 (own_below HPN.out hX) (fun q p hq hp=>by have h1:=HOI.out q hq; have h2:=HPI.out p hp; omega))
    have KB:=hid (gr_below hst.2 (HBB.out.trans (hX.mono (by omega))) (by omega) (fun q hq=>by have:=HOI.out q hq; omega))
    have KO:=hid hst.1
    clear hst hdn hset hX hbz hcw hfw hat hy0 hy1 hq2 hcy hW0
    go_wp2_with fail
    go_roundw
    case rel=>exact ⟨j + 1,by omega,by go_num,by have h:=KT.out; exact blkcBy,by have h:=KD.out; exact blkcBy,by have h:=KO.out; exact ownBy,by have h:=KP.out; exact ownBy,by have h:=KB.out; exact belBy⟩
    case measure=>simp [intOf]; omega
  ·obtain rfl:j=16:=by omega
   have HO2:=hid ho
   have HB2:=hid hb
   clear ho hb ht hd hpp
   go_wp2_with fail
   ((try simp only [Exit.inBlock,Exit.then]); apply bodyPost_ret0; focus ((try simp only [results,Tryz.results47]); (try go_simp); (try rfl)))
   unfold GivesPair
   rw [labsTo_length]
   exact ⟨_,_,rfl,own_weak HO2.out (by omega),by have hb:=HB2.out; exact belBy⟩
theorem lbt_yes {s a s' a':Int} {bs:List Int} {p:Int} (h:lbtB s a s' a' bs p=true):bs.length=80∧bitsB bs=true∧inB p 0 4=true∧tapeOkB s a=true∧a≤800000∧tapeOkB s' a'=true∧a'≤800000:=by
 unfold lbtB at h
 simp only [Bool.and_eq_true,decide_eq_true_eq] at h
 exact ⟨h.1.1.1.1.1.1,h.1.1.1.1.1.2,h.1.1.1.1.2,h.1.1.1.2,h.1.2,h.1.1.2,h.2⟩
set_option maxRecDepth 100000 in
set_option maxHeartbeats 3200000 in
theorem iTransNo (s a s' a':Int) (A:Option Addr) (c:Nat) (bs:List Int) (p:Int) (w:World) (hc:Cells w w.heap.size A (ints bs)) (hn:bs.length≤1000000000) (h:lbtB s a s' a' bs p=false) :
  Calls Tryz.prog 47 #[.agg #[.int .i64 s,.int .i64 a],.agg #[.int .i64 s',.int .i64 a'],.slice A bs.length c,.int .i64 p] w (GivesPair w [] false):=by
 unfold lbtB at h
 have HBS:=hid (fun w hc=>iBits A c bs w hc hn)
 have HC:=hid hc
 clear hc
 cases hl:decide (bs.length=80); rotate_left
 cases hb:bitsB bs; rotate_left
 cases hp:inB p 0 4; rotate_left
 cases h1:tapeOkB s a; rotate_left
 cases h3:tapeOkB s' a'; rotate_left
 cases h2:decide (a≤800000); rotate_left
 cases h4:decide (a'≤800000)
 rotate_left
 ·rw [hl,hb,hp,h1,h2,h3,h4] at h
  cases h
 all_goals
  have G0:((bs.length:Int) != 80) = !(decide (bs.length=80)):=by
   by_cases hh:bs.length=80
   ·simp [hh]
   ·have h9:¬ ((bs.length:Int)=80):=by omega
    simp [hh,h9]
  have G2:decide (800000 < a) = !(decide (a≤800000)):=by
   by_cases hh:a≤800000
   ·have h9:¬ (800000 < a):=by omega
    simp [hh,h9]
   ·have h9:800000 < a:=by omega
    simp [hh,h9]
  have G4:decide (800000 < a') = !(decide (a'≤800000)):=by
   by_cases hh:a'≤800000
   ·have h9:¬ (800000 < a'):=by omega
    simp [hh,h9]
   ·have h9:800000 < a':=by omega
    simp [hh,h9]
  rw [hl] at G0
  first | rw [h2] at G2 | clear G2
  first | rw [h4] at G4 | clear G4
  try simp only [Bool.not_true,Bool.not_false] at G0
  try simp only [Bool.not_true,Bool.not_false] at G2
  try simp only [Bool.not_false] at G4
  first | rw [hb] at HBS | skip
  clear h
  go_enter Tryz.func47,Tryz.ntmps47
  go_wp2_with (first | (go_at_call 93; refine (HBS.out _ (by first | exact HC.out | (refine (HC.out.below ?_).more ?_; (focus (exact belBy)); simp; omega))).mono ?_; rintro e w' ⟨rfl,rfl⟩) | (go_at_call 56; refine (iWithin _ _ _ _).mono ?_; rintro e w' ⟨rfl,rfl⟩) | (go_at_call 55; refine (iTapeOk _ _ _).mono ?_; rintro e w1 ⟨rfl,hb1⟩; obtain ⟨z1a,c1a,f1a,k1a⟩:=bfact hb1 (b:=w.heap.size) (by exact blkBy); obtain ⟨z1b,c1b,f1b,k1b⟩:=bfact hb1 (b:=w.heap.size + 1) (by exact blkBy)))
  ((try simp only [Exit.inBlock,Exit.then]); apply bodyPost_ret0; focus ((try simp only [results,Tryz.results47]); (try go_simp); (try rfl)))
  refine ⟨none,0,rfl,World.ownsRow_nil _ _ _ _,?_⟩
  exact belBy
theorem iTrans (s a s' a':Int) (A:Option Addr) (c:Nat) (bs:List Int) (p:Int) (w:World) (hc:Cells w w.heap.size A (ints bs)) (hn:bs.length≤1000000000) :
  Calls Tryz.prog 47 #[.agg #[.int .i64 s,.int .i64 a],.agg #[.int .i64 s',.int .i64 a'],.slice A bs.length c,.int .i64 p] w (GivesPair w (lbtL s a s' a' bs p) (lbtB s a s' a' bs p)):=by
 unfold lbtL
 cases h:lbtB s a s' a' bs p
 ·exact iTransNo s a s' a' A c bs p w hc hn h
 ·obtain ⟨hl,hb,hp,h1,h2,h3,h4⟩:=lbt_yes h
  have h0:=iTransYes s a s' a' A c bs p w hc hl hb hp h1 h2 h3 h4
  rw [←hl] at h0 ⊢
  exact h0
open Go.RowKit
def zs8:List Int:=[0,0,0,0,0,0,0,0]
set_option linter.unusedVariables false in
theorem sStateNew (w:World):Calls Tryz.prog 43 #[] w fun e w'=>∃ v,e=.returned v∧StOf w.heap.size 0 zs8 [] v w'∧Below w.heap.size w w':=by
 obtain ⟨i0,hi0,hz0,hz1,hz2⟩:=info_parts infoI
 go_enter Tryz.func43,Tryz.ntmps43
 go_wp2_with (at_make; refine wpList_make_full _ rfl _ _ 30 rfl w.heap.size 3 i0 (.int .i64 0) 1 Tryz.underlying30 hi0 hz0 hz1 _ _ _ _ 8 rfl rfl rfl rfl (by rw [hz2]; omega) (by unfold maxLen; omega) (by simp) ?_; intro w1 hown1 hg1; have r1:=gr_blk hg1 (b:=w.heap.size) (t:=TSa) (cs:=#[.slice none 0 0,.slice none 0 0]) (by exact blkcBy2) (fun q hq=>by cases hq); have cell_r:=r1.cell; have froz_r:=r1.frozen; have lt_r:=r1.lt; have hb1:=gr_below hg1 (show Below w.heap.size w _ by exact belBy) (by simp) (fun q hq=>by cases hq))
 have z1:=hb1.size
 have hwz:(w.alloc (.cells #[.slice none 0 0,.slice none 0 0] TSa)).heap.size=w.heap.size + 1:=by simp
 have hown2:w1.ownsRow w.heap.size 3 1 (.slice (some ⟨w.heap.size + 1,0,none⟩) 8 8) 8 (ints zs8):=by
  have hm:(madeCells (Value.int .i64 0).cells (8 * 1)).toList=ints zs8:=by kernel_rfl
  rw [hwz,hm] at hown1
  exact hown1
 have HO:=hid (And.intro hown2 hb1)
 clear hown1 hown2 hb1 hg1 r1
 ((try simp only [Exit.inBlock,Exit.then]); apply bodyPost_ret0; focus ((try simp only [results,Tryz.results43]); (try go_simp); (try rfl)))
 have h:=HO.out
 refine ⟨_,rfl,⟨_,_,_,_,rfl,?_,own_none,fun q p _ hp=>by cases hp⟩,?_⟩
 ·exact own_touch' (L:=[w.heap.size]) (w:=w1) (by exact tchBy) h.1 (fun q hq=>by have hq2:=Option.some.inj hq; have:=own_in h.1 q hq; simp at hq2 ⊢; omega)
 ·exact Touch.below' (L:=[w.heap.size]) (w:=w1) (by exact tchBy) h.2 (fun i hi=>by simp at hi; omega) h.2.size
structure RunM (w:World) (bs g k:Nat) (U:List St) (rs os:List Int) (R O:Option Addr) (cr co n:Nat) (wr:World):Prop where
 x:Blk wr bs TSa #[.slice R 8 cr,.slice O n co]
 p:wr.ownsRow w.heap.size 3 1 (.slice R 8 cr) 8 (ints rs)
 q:wr.ownsRow w.heap.size 3 1 (.slice O n co) n (ints os)
 u:RowS wr g U.length k U
 b:Below w.heap.size w wr
 n:n=os.length
 l:w.heap.size≤bs
 y:g≠bs
theorem RunM.below {w:World} {bs g k:Nat} {U:List St} {rs os:List Int} {R O:Option Addr} {cr co n:Nat} {wr w':World} (h:RunM w bs g k U rs os R O cr co n wr) (hb:Below wr.heap.size wr w'):RunM w bs g k U rs os R O cr co n w' :=
 ⟨h.x.past hb,own_below h.p hb,own_below h.q hb,h.u.below hb,h.b.trans (hb.mono h.b.size),h.n,h.l,h.y⟩
theorem RunM.store {w:World} {bs g k:Nat} {U:List St} {rs os rs2 os2:List Int} {R O R2 O2:Option Addr} {cr co n c2 o2 B:Nat} {w':World} (h:RunM w bs g k U rs os R O cr co n w') (hB:bs < B) (hz:w.heap.size≤B)
  (hp:w'.ownsRow B 3 1 (.slice R2 8 c2) 8 (ints rs2)) (hq:w'.ownsRow B 3 1 (.slice O2 os2.length o2) os2.length (ints os2)) :
  RunM w bs g k U rs2 os2 R2 O2 c2 o2 os2.length ((w'.setCell ⟨bs,0,none⟩ (.slice R2 8 c2)).setCell ⟨bs,1,none⟩ (.slice O2 os2.length o2)):=by
 have x:=h.x
 have cell_x:=x.cell
 have lt_x:=x.lt
 have froz_x:=x.frozen
 have T:Touch [bs] w' ((w'.setCell ⟨bs,0,none⟩ (.slice R2 8 c2)).setCell ⟨bs,1,none⟩ (.slice O2 os2.length o2)):=by exact tchBy
 have hl:=h.l
 exact ⟨by exact blkcBy2,own_touch' T (own_weak hp hz) (fun q hq'=>by have:=(own_in hp q hq').1; simp; omega),own_touch' T (own_weak hq hz) (fun q hq'=>by have:=(own_in hq q hq').1; simp; omega),
  own_touch' T h.u (fun q hq'=>by have e1:g=q:=Option.some.inj hq'; have e2:=h.y; simp; omega),Touch.below' T h.b (fun i hi=>by simp at hi; omega) h.b.size,rfl,hl,h.y⟩
theorem run_step {ins:List (List Int)} {U:List St} {j:Nat} {s:St} (h:U[j]? = some s):runL ins (U.take (j + 1))=runS ins (runL ins (U.take j)) s:=by
 rw [take_any h,runL_snoc]
def StOfN (base:Nat) (os rs2 os2:List Int) (v:Value) (w:World):Prop:=(nbB rs2=true∧nbB os2=true∧rs2.length=8∧os2.length≤os.length + 1)∧StOf base os2.length rs2 os2 v w
theorem StOfN.stable {base:Nat} {os rs2 os2:List Int}:∀ v w w',StOfN base os rs2 os2 v w→Grows w w'→StOfN base os rs2 os2 v w' :=
 fun v w w' h hg=>⟨h.1,StOf.stable v w w' h.2 hg⟩
set_option linter.unusedVariables false in
set_option maxRecDepth 100000 in
set_option maxHeartbeats 6400000 in
theorem sRunYes (A:Option Addr) (c:Nat) (L:List St) (Ai:Option Addr) (ci:Nat) (ls:List In1) (w:World) (hc:Cells w w.heap.size A (ints (flatS L))) (hn:L.length≤1000000000) (hci:Cells w w.heap.size Ai (insW ls)) (hi:InsW w w.heap.size ls) (hm:ls.length + totL ls≤1000000000) (hu:unrB L=true) (hib:insB (insN ls)=true) :
  Calls Tryz.prog 11 #[.slice A L.length c,.slice Ai ls.length ci] w (GivesPair w (runL (insN ls) (unrL L)).o true):=by
 have HU:=hid (fun w hc=>sUnroll A c L w hc hn)
 rw [hu] at HU
 have HIO:=hid (fun w' (h:Below w.heap.size w w')=>sInsOk Ai ci ls w' ((hci.below h).more h.size) ((hi.below h (Nat.le_refl _)).more h.size) (by omega) (fun q hq=>by have:=totL_mem hq; omega))
 rw [hib] at HIO
 have hul:=unrL_len L
 have HUS:=hid (unrL_ok L)
 have HIN:=hid (And.intro hci (And.intro hi (And.intro hm hib)))
 obtain ⟨U,hU⟩:∃ x,unrL L=x:=⟨_,rfl⟩
 rw [hU] at HU hul HUS ⊢
 clear hci hi hm hib hu hU
 go_enter Tryz.func11,Tryz.ntmps11
 go_wp2_with fail
 refine (HU.out _ hc).mono ?_
 rintro e w1 ⟨gU,kU,rfl,hgU,hrU,hb1⟩
 have HU1:=hid hrU
 have z1:=hb1.size
 have HB1:=hid hb1
 clear hrU hb1 HU hc
 go_wp2_with fail
 refine (HIO.out _ HB1.out).mono ?_
 rintro e w' ⟨rfl,rfl⟩
 go_wp2_with fail
 refine (sStateNew _).mono ?_
 rintro e w2 ⟨v,rfl,⟨R,cr,O,co,rfl,hp,hq,_⟩,hb2⟩
 have z2:=hb2.size
 have H2:=hid (And.intro (own_weak (base':=w.heap.size) hp z1) (And.intro (own_weak (base':=w.heap.size) hq z1) (And.intro (HU1.out.below hb2) (HB1.out.trans (hb2.mono z1)))))
 clear hp hq hb2 HU1 HB1
 go_upto_region 5 with fail
 apply wp_forget1 (w0:=w2) (B:=w2.heap.size) (b0:=w2.heap.size) (t0:=TSa) (c0:=#[.slice R 8 cr,.slice O 0 co])
 focus exact blkcBy2
 focus (exact belBy)
 intro w3 x_3 hb3
 have z3:=hb3.size
 obtain ⟨bs,hbs⟩:∃ n,w2.heap.size=n:=⟨_,rfl⟩
 have H3:=hid (show RunM w bs gU kU U zs8 [] R O cr co 0 w3 from ⟨by rw [←hbs]; exact x_3,own_below H2.out.1 hb3,own_below H2.out.2.1 hb3,H2.out.2.2.1.below hb3,H2.out.2.2.2.trans (hb3.mono (by omega)),rfl,by omega,by have:=H2.out.2.2.1.lt; omega⟩)
 rw [hbs]
 clear x_3 hb3 H2 hbs
 go_wp2_with fail
 go_loopw [9] (fun i wr=>∃ (j:Nat) (R O:Option Addr) (cr co n:Nat),j≤U.length∧i=.int .i64 (j:Int)∧(nbB (runL (insN ls) (U.take j)).r=true∧nbB (runL (insN ls) (U.take j)).o=true∧(runL (insN ls) (U.take j)).r.length=8∧(runL (insN ls) (U.take j)).o.length≤j)∧RunM w bs gU kU U (runL (insN ls) (U.take j)).r (runL (insN ls) (U.take j)).o R O cr co n wr) (fun i _=>U.length - (intOf i).toNat)
 case atStart=>exact ⟨0,R,O,cr,co,0,Nat.zero_le _,rfl,⟨by rw [List.take_zero]; rfl,by rw [List.take_zero]; rfl,by rw [List.take_zero]; rfl,by rw [List.take_zero]; exact Nat.le_refl _⟩,by rw [List.take_zero]; exact H3.out⟩
 case round =>
  clear H3
  obtain ⟨j,R,O,cr,co,n,hj,rfl,⟨h1,h2,h8,hol⟩,hI⟩:=hrel
  by_cases hlt:j < U.length
  ·obtain ⟨s,hs⟩:∃ s,U[j]? = some s:=⟨_,List.getElem?_eq_getElem hlt⟩
   have hst:=run_step (ins:=insN ls) hs
   obtain ⟨hs1,hs2,hs3⟩:=HUS.out s (List.mem_of_getElem? hs)
   obtain ⟨⟨rs,os⟩,hrs⟩:∃ x,runL (insN ls) (U.take j)=x:=⟨_,rfl⟩
   rw [hrs] at h1 h2 h8 hol hI hst
   dsimp only at h1 h2 h8 hol hI
   obtain rfl:=hI.n
   have hzb:=hI.b.size
   have hbl:=hI.x.lt
   have HS0:=(fun w' (h:Below wr.heap.size wr w')=>sStepSt R O cr co rs os Ai ci ls s w' (own_weak (own_below hI.p h) (Nat.zero_le _)) (own_weak (own_below hI.q h) (Nat.zero_le _)) ((HIN.out.1.below (hI.b.trans (h.mono hzb))).more (by have:=h.size; omega)) ((HIN.out.2.1.below (hI.b.trans (h.mono hzb)) (Nat.le_refl _)).more (by have:=h.size; omega)) HIN.out.2.2.1 HIN.out.2.2.2 h8 h1 h2 (by omega) hs1 hs2 hs3)
   obtain ⟨⟨rs2,os2⟩,hrs2⟩:∃ x,runS (insN ls) ⟨rs,os⟩ s=x:=⟨_,rfl⟩
   rw [hrs2] at HS0 hst
   dsimp only at HS0
   have HSS:=hid HS0
   have HST:=hid hst
   have HI:=hid hI
   obtain ⟨so,sd,sa,sb,sc,sn⟩:=s
   obtain ⟨gb,off,hA,hB,d0,d1,d2,d3,d4,d5⟩:=st_cells (Cells.of_own hI.u) (Below.refl _ _) hs
   cases hA
   rw [Nat.zero_add] at d0 d1 d2 d3 d4 d5
   dsimp only at HSS
   have hlt':(j:Int) < (U.length:Int):=by omega
   have j00:(0:Int)≤(j:Int):=by omega
   clear HS0 hst hI hs hrs hs1 hs2 hs3 hrs2 hj
   go_upto_region 8 with fail
   have qx0:=fun (X:Later wr)=>show X.val.cell? ⟨bs,0,none⟩=some (Value.slice R 8 cr) from (HI.out.x.past X.below).cell 0
   have qx1:=fun (X:Later wr)=>show X.val.cell? ⟨bs,1,none⟩=some (Value.slice O os.length co) from (HI.out.x.past X.below).cell 1
   have q0:=fun (X:Later wr)=>(X.below.cell (p:=⟨gU,j * 6,none⟩) (by dsimp only; omega)).trans d0
   have q1:=fun (X:Later wr)=>(X.below.cell (p:=⟨gU,j * 6 + 1,none⟩) (by dsimp only; omega)).trans d1
   have q2:=fun (X:Later wr)=>(X.below.cell (p:=⟨gU,j * 6 + 2,none⟩) (by dsimp only; omega)).trans d2
   have q3:=fun (X:Later wr)=>(X.below.cell (p:=⟨gU,j * 6 + 3,none⟩) (by dsimp only; omega)).trans d3
   have q4:=fun (X:Later wr)=>(X.below.cell (p:=⟨gU,j * 6 + 4,none⟩) (by dsimp only; omega)).trans d4
   have q5:=fun (X:Later wr)=>(X.below.cell (p:=⟨gU,j * 6 + 5,none⟩) (by dsimp only; omega)).trans d5
   clear d0 d1 d2 d3 d4 d5
   refine wp_grow_tails (W:=wr) (spec:=specAt [(6,.any (StOfN wr.heap.size os rs2 os2))]) 7 (by kernel_rfl) (by kernel_rfl) (Onward.mk' ((Below.refl _ _).drew)) (specAt_stab ?_) ?_
   ·intro p hp F hF
    simp only [List.mem_cons,List.not_mem_nil,or_false] at hp
    rcases hp with rfl
    injection hF with hF
    subst hF
    exact StOfN.stable
   refine gList_quietK 6 ⟨rfl,rfl,rfl,rfl,rfl,rfl,rfl,rfl,rfl,rfl,rfl,rfl,trivial⟩ (by decide) ?_
   delta Onward
   dsimp only [List.take,List.drop]
   repeat (go_big_quiet_step (fail))
   refine wpQuiet_nil ?_
   refine gList_any (StOfN wr.heap.size os rs2 os2) rfl rfl (fun w' hC hd=>?_) (fun v=>?_)
   ·obtain ⟨⟨w',hb⟩,rfl⟩:=hC
    refine grow_call (by simp [go_sem]) ((HSS.out _ hb).mono ?_)
    rintro e w'' ⟨hk,v,rfl,⟨R2,c2,O2,o2,rfl,hp2,hq2,hne⟩,hb'⟩
    exact ⟨_,rfl,hb',hk,R2,c2,O2,o2,rfl,own_weak hp2 hb.size,own_weak hq2 hb.size,hne⟩
   unfold gList
   intro w' hW hfs
   have hlast:StOfN wr.heap.size os rs2 os2 v w':=hfs 6
   obtain ⟨⟨w32,hb⟩,rfl⟩:=hW
   obtain ⟨⟨k1,k2,k3,k4⟩,R2,c2,O2,o2,rfl,hp2,hq2,_⟩:=hlast
   have hs32:=hb.size
   have HX:=hid (HI.out.below hb)
   have HP:=hid (And.intro hp2 (And.intro hq2 hb))
   clear qx0 qx1 q0 q1 q2 q3 q4 q5 hfs hp2 hq2 hb HSS
   try dsimp only [List.drop]
   try simp only [Act.put,List.setIfInBounds_toArray,List.set_cons_succ,List.set_cons_zero]
   have cell_x:=HX.out.x.cell
   have lt_x:=HX.out.x.lt
   have froz_x:=HX.out.x.frozen
   have c0:=cell_x 0
   go_upto_region 7 with fail
   obtain ⟨w4,hw4⟩:∃ z,(w'.setCell ⟨bs,0,none⟩ (.slice R2 8 c2)).setCell ⟨bs,1,none⟩ (.slice O2 os2.length o2)=z:=⟨_,rfl⟩
   have HK:=hid (RunM.store HX.out hbl hzb HP.out.1 HP.out.2.1)
   rw [hw4] at HK ⊢
   clear hw4 cell_x lt_x froz_x c0 HX HP HI
   go_wp2_with fail
   go_roundw
   case rel=>exact ⟨j + 1,R2,O2,c2,o2,os2.length,by omega,by go_num,by rw [HST.out]; exact ⟨k1,k2,k3,by dsimp only; omega⟩,by rw [HST.out]; exact HK.out⟩
   case measure=>simp [intOf]; omega
  ·have e:j=U.length:=by omega
   subst e
   rw [List.take_length] at hI
   obtain ⟨⟨rs,os⟩,hrs⟩:∃ x,runL (insN ls) U=x:=⟨_,rfl⟩
   rw [hrs] at hI
   dsimp only at hI
   obtain rfl:=hI.n
   have HI:=hid hI
   have cell_x:=hI.x.cell
   have lt_x:=hI.x.lt
   have HR:=hid hrs
   clear hI h1 h2 h8 hol hrs
   go_wp2_with fail
   ((try simp only [Exit.inBlock,Exit.then]); apply bodyPost_ret0; focus ((try simp only [results,Tryz.results11]); (try go_simp); (try rfl)))
   unfold GivesPair
   rw [HR.out]
   exact ⟨_,_,rfl,HI.out.q,HI.out.b⟩
end Go.Proofs.YtihbaieiempjeaaGreat
