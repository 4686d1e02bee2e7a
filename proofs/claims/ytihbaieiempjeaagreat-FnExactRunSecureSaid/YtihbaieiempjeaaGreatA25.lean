/- Lemmas of the proof: Trans5, SecX, InsI. -/
import Derived.Test.YtihbaieiempjeaaGreatA0
import Derived.Test.YtihbaieiempjeaaGreatA24
import Derived.Test.YtihbaieiempjeaaGreatA21
import Derived.Test.YtihbaieiempjeaaGreatA22
namespace Go.Proofs.YtihbaieiempjeaaGreat
open Go.RowKit
set_option maxRecDepth 100000 in
set_option maxHeartbeats 3200000 in
theorem sTransYes (s a s' a':Int) (A:Option Addr) (c:Nat) (bs:List Int) (p:Int) (w:World) (hc:Cells w w.heap.size A (ints bs)) (hl:bs.length=80) (hb:bitsB bs=true) (hp:inB p 0 4=true) (h1:tapeOkB s a=true) (h2:a≤800000) (h3:tapeOkB s' a'=true) (h4:a'≤800000) :
  Calls Tryz.prog 75 #[.agg #[.int .i64 s,.int .i64 a],.agg #[.int .i64 s',.int .i64 a'],.slice A 80 c,.int .i64 p] w (GivesPair w (labsTo s a bs 80) true):=by
 have HBI:=hid (fun (k:Nat) (x:Int) (h:bs[k]? = some x)=>bitsB_get hb h)
 have HBS:=hid (fun w hc=>sBits A c bs 80 w hc (by omega))
 rw [hb] at HBS
 have HT1:=hid (fun w=>s_l38 s a w)
 have HT2:=hid (fun w=>s_l38 s' a' w)
 rw [h1,show decide (a≤800000)=true by simpa using h2] at HT1
 rw [h3,show decide (a'≤800000)=true by simpa using h4] at HT2
 have HIL:=hid (fun w hc=>sInputLabels s a A c bs w h1 (by omega) hb (by omega) hc)
 unfold GivesInts at HIL
 have hpl:partyL p=partyTo p 16:=by unfold partyL; rw [hp]; rfl
 have HPB:=hid (fun w=>sPartyBits p w)
 unfold GivesInts at HPB
 rw [hpl,partyTo_length] at HPB
 rw [hl] at HIL HBS
 rw [labsTo_length] at HIL
 have HD:=hid (fun w=>sDeltaOf s a w h1 (by omega))
 have HZ:=hid (fun k w h=>sInputZero s a k w h1 h)
 have HTK:=hid (fun (j:Nat) (hj:j≤16)=>tape_shift h3 h4 hj)
 have HOD:=hid (fun (j:Nat) w (hj:j≤16)=>sOtDeal s' (a' + 3 * j) w (tape_shift h3 h4 hj) (by omega))
 have HC:=hid hc
 have HL:=hid hl
 have H4:=hid h4
 obtain ⟨hp0,hp1⟩:=inB_iff.1 hp
 obtain ⟨P,rfl⟩:=Int.eq_ofNat_of_zero_le hp0
 have hP4:P≤4:=by omega
 clear hb hc h2 h4 hpl hp0 hp1 hl h1 h3
 have hq0:=HC.out
 go_enter Tryz.func75,Tryz.ntmps75
 have b_0:=(Below.refl w.heap.size w)
 have s_0:=b_0.size
 have q_0:=hq0
 clear hq0
 go_wp2_with fail
 refine calls_forget2 (W:=w) (b0:=w.heap.size) (t0:=27) (c0:=#[.int .i64 s,.int .i64 a]) (b1:=w.heap.size + 1) (t1:=27) (c1:=#[.int .i64 s',.int .i64 a']) ?_ ?_ ?_ ?_
 (focus exact blkcBy)
 (focus exact blkcBy)
 (focus (exact belBy))
 intro X1 t_n d_n hX1
 have sX1:=hX1.size
 have t_lt:=t_n.lt
 have d_lt:=d_n.lt
 refine (HBS.out _ ((cells_below q_0 hX1 (by omega)).more (by omega))).mono ?_
 rintro e w' ⟨rfl,rfl⟩
 have b_1:=b_0.trans (hX1.mono (by omega))
 have q_1:=cells_below q_0 hX1 (by omega)
 have t_1:=t_n
 have d_1:=d_n
 clear q_0 b_0 t_n d_n hX1
 have cell_t:=t_1.cell
 have froz_t:=t_1.frozen
 have lt_t:=t_1.lt
 have cell_d:=d_1.cell
 have froz_d:=d_1.frozen
 have lt_d:=d_1.lt
 go_wp2_with fail
 refine calls_forget0 (W:=X1) ?_ ?_
 (focus (exact belBy))
 intro X2 hX2
 have sX2:=hX2.size
 refine (sWithin _ _ _ _).mono ?_
 rintro e w' ⟨rfl,rfl⟩
 have b_2:=b_1.trans (hX2.mono (by omega))
 have q_2:=cells_below q_1 hX2 (by omega)
 have t_2:=Blk.past hX2 t_1
 have d_2:=Blk.past hX2 d_1
 clear q_1 t_1 d_1 b_1 cell_t froz_t lt_t cell_d froz_d lt_d hX2
 have cell_t:=t_2.cell
 have froz_t:=t_2.frozen
 have lt_t:=t_2.lt
 have cell_d:=d_2.cell
 have froz_d:=d_2.frozen
 have lt_d:=d_2.lt
 go_wp2_with fail
 refine calls_forget0 (W:=X2) ?_ ?_
 (focus (exact belBy))
 intro X3 hX3
 have sX3:=hX3.size
 refine (HT1.out _).mono ?_
 rintro e w3 ⟨rfl,hb3⟩
 have s3:=hb3.size
 have hT3:=hX3.trans (hb3.mono sX3)
 have b_3:=b_2.trans (hT3.mono (by omega))
 have q_3:=cells_below q_2 hT3 (by omega)
 have t_3:=Blk.past hT3 t_2
 have d_3:=Blk.past hT3 d_2
 clear q_2 t_2 d_2 b_2 cell_t froz_t lt_t cell_d froz_d lt_d hX3 hT3 hb3
 have cell_t:=t_3.cell
 have froz_t:=t_3.frozen
 have lt_t:=t_3.lt
 have cell_d:=d_3.cell
 have froz_d:=d_3.frozen
 have lt_d:=d_3.lt
 go_wp2_with fail
 refine calls_forget0 (W:=w3) ?_ ?_
 (focus (exact belBy))
 intro X4 hX4
 have sX4:=hX4.size
 refine (HT2.out _).mono ?_
 rintro e w4 ⟨rfl,hb4⟩
 have s4:=hb4.size
 have hT4:=hX4.trans (hb4.mono sX4)
 have b_4:=b_3.trans (hT4.mono (by omega))
 have q_4:=cells_below q_3 hT4 (by omega)
 have t_4:=Blk.past hT4 t_3
 have d_4:=Blk.past hT4 d_3
 clear q_3 t_3 d_3 b_3 cell_t froz_t lt_t cell_d froz_d lt_d hX4 hT4 hb4
 have cell_t:=t_4.cell
 have froz_t:=t_4.frozen
 have lt_t:=t_4.lt
 have cell_d:=d_4.cell
 have froz_d:=d_4.frozen
 have lt_d:=d_4.lt
 go_wp2_with fail
 refine calls_forget0 (W:=w4) ?_ ?_
 (focus (exact belBy))
 intro X5 hX5
 have sX5:=hX5.size
 refine (HIL.out _ ((cells_below q_4 hX5 (by omega)).more (by omega))).mono ?_
 rintro e w5 ⟨Ao,co,rfl,o_5,hb5⟩
 have s5:=hb5.size
 have hT5:=hX5.trans (hb5.mono sX5)
 have b_5:=b_4.trans (hT5.mono (by omega))
 have q_5:=cells_below q_4 hT5 (by omega)
 have t_5:=Blk.past hT5 t_4
 have d_5:=Blk.past hT5 d_4
 have o_in:=own_in o_5
 clear q_4 t_4 d_4 b_4 cell_t froz_t lt_t cell_d froz_d lt_d hX5 hT5 hb5
 have cell_t:=t_5.cell
 have froz_t:=t_5.frozen
 have lt_t:=t_5.lt
 have cell_d:=d_5.cell
 have froz_d:=d_5.frozen
 have lt_d:=d_5.lt
 go_wp2_with fail
 refine calls_forget0 (W:=w5) ?_ ?_
 (focus (exact belBy))
 intro X6 hX6
 have sX6:=hX6.size
 refine (HPB.out _).mono ?_
 rintro e w6 ⟨Ap,cp,rfl,pp_6,hb6⟩
 have s6:=hb6.size
 have hT6:=hX6.trans (hb6.mono sX6)
 have b_6:=b_5.trans (hT6.mono (by omega))
 have q_6:=cells_below q_5 hT6 (by omega)
 have o_6:=own_below o_5 hT6
 have t_6:=Blk.past hT6 t_5
 have d_6:=Blk.past hT6 d_5
 have pp_in:=own_in pp_6
 clear q_5 o_5 t_5 d_5 b_5 cell_t froz_t lt_t cell_d froz_d lt_d hX6 hT6 hb6
 have cell_t:=t_6.cell
 have froz_t:=t_6.frozen
 have lt_t:=t_6.lt
 have cell_d:=d_6.cell
 have froz_d:=d_6.frozen
 have lt_d:=d_6.lt
 go_wp2_with fail
 refine calls_forget0 (W:=w6) ?_ ?_
 (focus (exact belBy))
 intro X7 hX7
 have sX7:=hX7.size
 refine (HD.out _).mono ?_
 rintro e w7 ⟨rfl,hb7⟩
 have s7:=hb7.size
 have hT7:=hX7.trans (hb7.mono sX7)
 have b_7:=b_6.trans (hT7.mono (by omega))
 have q_7:=cells_below q_6 hT7 (by omega)
 have o_7:=own_below o_6 hT7
 have pp_7:=own_below pp_6 hT7
 have t_7:=Blk.past hT7 t_6
 have d_7:=Blk.past hT7 d_6
 clear q_6 o_6 pp_6 t_6 d_6 b_6 cell_t froz_t lt_t cell_d froz_d lt_d hX7 hT7 hb7
 have cell_t:=t_7.cell
 have froz_t:=t_7.frozen
 have lt_t:=t_7.lt
 have cell_d:=d_7.cell
 have froz_d:=d_7.frozen
 have lt_d:=d_7.lt
 have HT:=hid t_7
 have HDD:=hid d_7
 have HO:=hid o_7
 have HPP:=hid pp_7
 have HB:=hid b_7
 obtain ⟨go,rfl,hgo0⟩:=own_at HO.out (by omega)
 clear hgo0
 obtain ⟨gp,rfl,hgp0⟩:=own_at HPP.out (by omega)
 clear hgp0
 have hgo:=o_in go rfl
 have hgp:=pp_in gp rfl
 have HOI:=hid o_in
 have HPI:=hid pp_in
 clear t_7 d_7 o_7 pp_7 b_7 q_7 cell_t froz_t cell_d froz_d o_in pp_in
 go_wp2
 go_loopw [14,15,16,17,18,19,20,21] (fun i _ _ _ _ _ _ _ wr=>∃ j:Nat,j≤16∧i=.int .i64 j∧Blk wr w.heap.size 27 #[.int .i64 s,.int .i64 a]∧Blk wr (w.heap.size + 1) 27 #[.int .i64 s',.int .i64 (a' + 3 * j)]∧wr.ownsRow X5.heap.size 3 1 (.slice (some ⟨go,0,none⟩) 80 co) 80 (ints (labsTo s a bs 80)) ∧
  wr.ownsRow X6.heap.size 3 1 (.slice (some ⟨gp,0,none⟩) 16 cp) 16 (ints (partyTo P 16))∧Below w.heap.size w wr) (fun i _ _ _ _ _ _ _ _=>16 - (intOf i).toNat)
 case atStart=>exact ⟨0,by omega,rfl,by have h:=HT.out; exact blkcBy,by rw [show a' + 3 * ((0:Nat):Int)=a' by omega]; have h:=HDD.out; exact blkcBy,by have h:=HO.out; exact ownBy,by have h:=HPP.out; exact ownBy,by have h:=HB.out; exact belBy⟩
 case round =>
  obtain ⟨j,hj,rfl,ht,hd,ho,hpp,hb⟩:=hrel
  by_cases hlt:j < 16
  ·have hlt':(j:Int) < 16:=by omega
   obtain ⟨K,hK⟩:∃ K,16 * P + j=K:=⟨_,rfl⟩
   have hK80:K < 80:=by omega
   have hKi:(K:Int) < 80:=by omega
   obtain ⟨x,hx⟩:∃ x,bs[K]? = some x:=⟨_,List.getElem?_eq_getElem (by have:=HL.out; omega)⟩
   obtain ⟨b,off,rfl,hB,hcl⟩:=HC.out (by rw [ints_length]; have:=HL.out; omega)
   have hcell:wr.cell? ⟨b,off + K,none⟩=some (.int .i64 x):=(hb.cell (p:=⟨b,off + K,none⟩) hB).trans (hcl K _ (ints_get hx))
   have hpc:wr.cell? ⟨gp,j,none⟩=some (.int .i64 (K:Int)):=by
    rw [hpp.cellAt j (by omega),show ((K:Nat):Int)=16 * (P:Int) + (j:Int) by omega]
    exact ints_get (partyTo_get _ _ _ hlt)
   have hbit:=HBI.out K x hx
   have HBIT:=hid hbit
   have hgl:=labsTo_get s a bs K 80 hK80
   rw [getD_at hx] at hgl
   have HGL:=hid hgl
   have zr:=hb.size
   have hjle:j≤16:=by omega
   have hga:go < wr.heap.size:=(ho.lt go rfl).2
   clear hcl hx hbit hgl
   have b_10:=hb
   have s_10:=b_10.size
   have o_in:=HOI.out
   have o_10:=ho
   clear ho
   have pp_in:=HPI.out
   have pp_10:=hpp
   clear hpp
   have t_10:=ht
   clear ht
   have t_lt:=t_10.lt
   have cell_t:=t_10.cell
   have froz_t:=t_10.frozen
   have lt_t:=t_10.lt
   have d_10:=hd
   clear hd
   have d_lt:=d_10.lt
   have cell_d:=d_10.cell
   have froz_d:=d_10.frozen
   have lt_d:=d_10.lt
   have q_10:=hcell
   clear hcell
   have lt_q:b < wr.heap.size:=by omega
   go_wp2_with fail
   refine calls_forget0 (W:=wr) ?_ ?_
   (focus (exact belBy))
   intro X11 hX11
   have sX11:=hX11.size
   refine (HOD.out j _ hjle).mono ?_
   rintro e w11 ⟨rfl,hb11⟩
   have s11:=hb11.size
   have hT11:=hX11.trans (hb11.mono sX11)
   have b_11:=b_10.trans (hT11.mono (by omega))
   have o_11:=own_below o_10 hT11
   have pp_11:=own_below pp_10 hT11
   have t_11:=Blk.past hT11 t_10
   have d_11:=Blk.past hT11 d_10
   have q_11:=cell_kept q_10 hT11 (by dsimp only; omega)
   clear o_10 pp_10 t_10 d_10 q_10 b_10 cell_t froz_t lt_t cell_d froz_d lt_d lt_q hX11 hT11 hb11
   have cell_t:=t_11.cell
   have froz_t:=t_11.frozen
   have lt_t:=t_11.lt
   have cell_d:=d_11.cell
   have froz_d:=d_11.frozen
   have lt_d:=d_11.lt
   have lt_q:b < w11.heap.size:=(by omega)
   go_upto_region 12 with fail
   refine wp_touch3 (w0:=w11) (L:=[w.heap.size + 1]) (b0:=w.heap.size + 1) (t0:=27) (c0:=#[.int .i64 s',.int .i64 (dealAt s' (a' + 3 * j))]) (b1:=w11.heap.size) (t1:=124) (c1:=#[.int .i64 (dealA s' (a' + 3 * j)),.int .i64 (dealB s' (a' + 3 * j))]) (b2:=w11.heap.size + 1) (t2:=126) (c2:=#[.int .i64 (dealC s' (a' + 3 * j)),.int .i64 (dealR s' (a' + 3 * j))]) ?_ ?_ ?_ ?_ ?_
   (focus exact blkcBy)
   (focus exact blkcBy)
   (focus exact blkcBy)
   (focus (exact tchBy))
   intro w12 d_12 x_12 y_12 hX12
   have sX12:=hX12.size
   have x_lt:=x_12.lt
   have y_lt:=y_12.lt
   have b_12:=hX12.below b_11 (by first | (simp; done) | (simp; omega))
   have o_12:=own_touch' hX12 o_11 (fun q hq=>by have h1:=o_in q hq; (try have e0:=own_ne_obj o_11 d_11 (by decide) q hq); simp; omega)
   have pp_12:=own_touch' hX12 pp_11 (fun q hq=>by have h1:=pp_in q hq; (try have e0:=own_ne_obj pp_11 d_11 (by decide) q hq); simp; omega)
   have t_12:=Blk.touch hX12 t_11 (by first | (simp; done) | (simp; omega))
   have q_12:=Touch.cell hX12 q_11 (by dsimp only; omega) (by first | (simp; done) | (simp; omega))
   clear o_11 pp_11 t_11 d_11 q_11 b_11 cell_t froz_t lt_t cell_d froz_d lt_d lt_q hX12
   have cell_t:=t_12.cell
   have froz_t:=t_12.frozen
   have lt_t:=t_12.lt
   have cell_d:=d_12.cell
   have froz_d:=d_12.frozen
   have lt_d:=d_12.lt
   have cell_x:=x_12.cell
   have froz_x:=x_12.frozen
   have lt_x:=x_12.lt
   have cell_y:=y_12.cell
   have froz_y:=y_12.frozen
   have lt_y:=y_12.lt
   have lt_q:b < w12.heap.size:=(by omega)
   go_wp2_with fail
   refine calls_forget0 (W:=w12) ?_ ?_
   (focus (exact belBy))
   intro X13 hX13
   have sX13:=hX13.size
   refine (HZ.out _ _ (inB_iff.2 (by omega))).mono ?_
   rintro e w13 ⟨rfl,hb13⟩
   have s13:=hb13.size
   have hT13:=hX13.trans (hb13.mono sX13)
   have b_13:=b_12.trans (hT13.mono (by omega))
   have o_13:=own_below o_12 hT13
   have pp_13:=own_below pp_12 hT13
   have t_13:=Blk.past hT13 t_12
   have d_13:=Blk.past hT13 d_12
   have x_13:=Blk.past hT13 x_12
   have y_13:=Blk.past hT13 y_12
   have q_13:=cell_kept q_12 hT13 (by dsimp only; omega)
   clear o_12 pp_12 t_12 d_12 x_12 y_12 q_12 b_12 cell_t froz_t lt_t cell_d froz_d lt_d cell_x froz_x lt_x cell_y froz_y lt_y lt_q hX13 hT13 hb13
   have cell_t:=t_13.cell
   have froz_t:=t_13.frozen
   have lt_t:=t_13.lt
   have cell_d:=d_13.cell
   have froz_d:=d_13.frozen
   have lt_d:=d_13.lt
   have cell_x:=x_13.cell
   have froz_x:=x_13.frozen
   have lt_x:=x_13.lt
   have cell_y:=y_13.cell
   have froz_y:=y_13.frozen
   have lt_y:=y_13.lt
   have lt_q:b < w13.heap.size:=(by omega)
   go_wp2_with fail
   go_region_held3 (fun w'=>w'.cell? ⟨w11.heap.size,0,none⟩=some (.int .i64 (dealA s' (a' + 3 * j)))∧w'.cell? ⟨w11.heap.size,1,none⟩=some (.int .i64 (dealB s' (a' + 3 * j)))∧w'.cell? ⟨w11.heap.size + 1,0,none⟩=some (.int .i64 (dealC s' (a' + 3 * j)))∧w'.cell? ⟨w11.heap.size + 1,1,none⟩=some (.int .i64 (dealR s' (a' + 3 * j)))∧w'.cell? ⟨b,off + K,none⟩=some (.int .i64 x)) ((refine ⟨(Blk.cell (t:=124) (cs:=#[.int .i64 (dealA s' (a' + 3 * j)),.int .i64 (dealB s' (a' + 3 * j))]) ?qx 0),(Blk.cell ?qx 1),(Blk.cell (t:=126) (cs:=#[.int .i64 (dealC s' (a' + 3 * j)),.int .i64 (dealR s' (a' + 3 * j))]) ?qy 0),(Blk.cell ?qy 1),(by first | ((repeat (first | (with_reducible assumption) | (with_reducible refine cell_drew ?_) | (with_reducible refine cell_alloc ?_ (by first | (dsimp only; omega) | (simp; omega))) | (with_reducible refine cell_far ?_ (by first | (dsimp only; omega) | (simp; omega))))); done) | exact cell_kept q_13 (by exact belBy) (by dsimp only; omega))⟩; (case qx=>(exact blkBy)); (case qy=>(exact blkBy)))) (first | (go_at_call 136; refine calls_forget0 (W:=w13) ?_ ?_; (focus (exact belBy)); intro X14 hX14; have sX14:=hX14.size; refine (sLabelFor _ _ _ _ (zero_label _ _) (delta_label _ _) (inB_iff.2 (by omega))).mono ?_; rintro e w14 ⟨rfl,hb14⟩; have s14:=hb14.size; have hT14:=hX14.trans (hb14.mono sX14); have b_14:=b_13.trans (hT14.mono (by omega)); have o_14:=own_below o_13 hT14; have pp_14:=own_below pp_13 hT14; have t_14:=Blk.past hT14 t_13; have d_14:=Blk.past hT14 d_13; have x_14:=Blk.past hT14 x_13; have y_14:=Blk.past hT14 y_13; have q_14:=cell_kept q_13 hT14 (by dsimp only; omega); clear o_13 pp_13 t_13 d_13 x_13 y_13 q_13 b_13 cell_t froz_t lt_t cell_d froz_d lt_d cell_x froz_x lt_x cell_y froz_y lt_y lt_q hX14 hT14 hb14; have cell_t:=t_14.cell; have froz_t:=t_14.frozen; have lt_t:=t_14.lt; have cell_d:=d_14.cell; have froz_d:=d_14.frozen; have lt_d:=d_14.lt; have cell_x:=x_14.cell; have froz_x:=x_14.frozen; have lt_x:=x_14.lt; have cell_y:=y_14.cell; have froz_y:=y_14.frozen; have lt_y:=y_14.lt; have lt_q:b < w14.heap.size:=(by omega)) | (go_at_call 143; refine calls_forget0 (W:=w14) ?_ ?_; (focus (exact belBy)); intro X15 hX15; have sX15:=hX15.size; refine (sOtAsk _ _ _ _ HBIT.out (deal_c _ _)).mono ?_; rintro e w15 ⟨rfl,hb15⟩; have s15:=hb15.size; have hT15:=hX15.trans (hb15.mono sX15); have b_15:=b_14.trans (hT15.mono (by omega)); have o_15:=own_below o_14 hT15; have pp_15:=own_below pp_14 hT15; have t_15:=Blk.past hT15 t_14; have d_15:=Blk.past hT15 d_14; have x_15:=Blk.past hT15 x_14; have y_15:=Blk.past hT15 y_14; have q_15:=cell_kept q_14 hT15 (by dsimp only; omega); clear o_14 pp_14 t_14 d_14 x_14 y_14 q_14 b_14 cell_t froz_t lt_t cell_d froz_d lt_d cell_x froz_x lt_x cell_y froz_y lt_y lt_q hX15 hT15 hb15; have cell_t:=t_15.cell; have froz_t:=t_15.frozen; have lt_t:=t_15.lt; have cell_d:=d_15.cell; have froz_d:=d_15.frozen; have lt_d:=d_15.lt; have cell_x:=x_15.cell; have froz_x:=x_15.frozen; have lt_x:=x_15.lt; have cell_y:=y_15.cell; have froz_y:=y_15.frozen; have lt_y:=y_15.lt; have lt_q:b < w15.heap.size:=(by omega)) | (go_at_call 142; refine calls_forget0 (W:=w15) ?_ ?_; (focus (exact belBy)); intro X16 hX16; have sX16:=hX16.size; refine (sOtReply _ _ _ _ _ _ (zero_label _ _) (lbl_label _ (zero_label _ _) (delta_label _ _)) (dealA_label _ _) (dealB_label _ _) (ask_bit HBIT.out (deal_c _ _))).mono ?_; rintro e w16 ⟨rfl,hb16⟩; have s16:=hb16.size; have hT16:=hX16.trans (hb16.mono sX16); have b_16:=b_15.trans (hT16.mono (by omega)); have o_16:=own_below o_15 hT16; have pp_16:=own_below pp_15 hT16; have t_16:=Blk.past hT16 t_15; have d_16:=Blk.past hT16 d_15; have x_16:=Blk.past hT16 x_15; have y_16:=Blk.past hT16 y_15; have q_16:=cell_kept q_15 hT16 (by dsimp only; omega); clear o_15 pp_15 t_15 d_15 x_15 y_15 q_15 b_15 cell_t froz_t lt_t cell_d froz_d lt_d cell_x froz_x lt_x cell_y froz_y lt_y lt_q hX16 hT16 hb16; have cell_t:=t_16.cell; have froz_t:=t_16.frozen; have lt_t:=t_16.lt; have cell_d:=d_16.cell; have froz_d:=d_16.frozen; have lt_d:=d_16.lt; have cell_x:=x_16.cell; have froz_x:=x_16.frozen; have lt_x:=x_16.lt; have cell_y:=y_16.cell; have froz_y:=y_16.frozen; have lt_y:=y_16.lt; have lt_q:b < w16.heap.size:=(by omega)))
   go_upto_region 14 with fail
   refine wp_forget0 (w0:=w16) (B:=w16.heap.size) ?_ ?_
   (focus (exact belBy))
   intro w17 hX17
   have sX17:=hX17.size
   have b_17:=b_16.trans (hX17.mono (by omega))
   have o_17:=own_below o_16 hX17
   have pp_17:=own_below pp_16 hX17
   have t_17:=Blk.past hX17 t_16
   have d_17:=Blk.past hX17 d_16
   have x_17:=Blk.past hX17 x_16
   have y_17:=Blk.past hX17 y_16
   have q_17:=cell_kept q_16 hX17 (by dsimp only; omega)
   clear o_16 pp_16 t_16 d_16 x_16 y_16 q_16 b_16 cell_t froz_t lt_t cell_d froz_d lt_d cell_x froz_x lt_x cell_y froz_y lt_y lt_q hX17
   have cell_t:=t_17.cell
   have froz_t:=t_17.frozen
   have lt_t:=t_17.lt
   have cell_d:=d_17.cell
   have froz_d:=d_17.frozen
   have lt_d:=d_17.lt
   have cell_x:=x_17.cell
   have froz_x:=x_17.frozen
   have lt_x:=x_17.lt
   have cell_y:=y_17.cell
   have froz_y:=y_17.frozen
   have lt_y:=y_17.lt
   have lt_q:b < w17.heap.size:=(by omega)
   have hcy:w17.cell? ⟨go,K,none⟩=some (.int .i64 (lblI (zeroI s K) (deltaI s a) x)):=by rw [o_17.cellAt K (by omega)]; exact ints_get HGL.out
   have HOO:=hid o_17
   have HTT:=hid t_17
   have HDN:=hid d_17
   have HPN:=hid pp_17
   have HBB:=hid b_17
   have hwl:go < w17.heap.size:=by omega
   have hq2:=q_17
   have hW0:=Below.refl w17.heap.size w17
   have hy0:=cell_y 0
   have hy1:=cell_y 1
   clear o_17 t_17 d_17 pp_17 b_17 q_17
   go_region_with ((go_at_call 144; refine (sOtReceive _ _ _ _ _ _ (reply_label _ (zero_label _ _) (dealA_label _ _) (dealB_label _ _)) (reply_label _ (lbl_label _ (zero_label _ _) (delta_label _ _)) (dealB_label _ _) (dealA_label _ _)) (dealR_label _ _) HBIT.out).mono ?_; rintro e wz ⟨rfl,hbz⟩; have hX:Below w17.heap.size w17 wz:=(by exact belBy); have hcw:=cell_kept hcy hX hwl; have hfw:=(own_below HOO.out hX).frozenAt K))
   all_goals
    have hset:recvI (replyI (zeroI s K) (dealA s' (a' + 3 * j)) (dealB s' (a' + 3 * j)) (bits .xor .i64 x (dealC s' (a' + 3 * j)))) (replyI (lblI (zeroI s K) (deltaI s a) 1) (dealB s' (a' + 3 * j)) (dealA s' (a' + 3 * j)) (bits .xor .i64 x (dealC s' (a' + 3 * j)))) x (dealR s' (a' + 3 * j))=lblI (zeroI s K) (deltaI s a) x :=
     recv_all (zero_label s K) (delta_label s a) (below_label s' (a' + 3 * j) 65536) (below_label s' (belowAt s' (a' + 3 * j) 65536) 65536) HBIT.out (deal_c s' (a' + 3 * j))
    rw [hset]
    have hst:=(own_below HOO.out hX).stored K (.int .i64 (lblI (zeroI s K) (deltaI s a) x))
    rw [ints_put,set_same HGL.out] at hst
    have hat:=deal_at (HTK.out j hjle) (by have:=H4.out; omega)
    rw [show a' + 3 * (j:Int) + 3=a' + 3 * ((j + 1:Nat):Int) by omega] at hat
    have hdn:=HDN.out
    rw [hat] at hdn
    have hsz:=hX.size
    have KT:=hid (gr_blk hst.2 (Blk.past hX HTT.out) (fun q hq=>by have:=HOI.out q hq; omega))
    have KD:=hid (gr_blk hst.2 (Blk.past hX hdn) (fun q hq=>by have:=HOI.out q hq; omega))
    have KP:=hid (gr_own hst.2 (own_below HPN.out hX) (fun q p hq hp=>by have h1:=HOI.out q hq; have h2:=HPI.out p hp; omega))
    have KB:=hid (gr_below hst.2 (HBB.out.trans (hX.mono (by omega))) (by omega) (fun q hq=>by have:=HOI.out q hq; omega))
    have KO:=hid hst.1
    clear hst hdn hset hX hbz hcw hfw hat hy0 hy1 hq2 hcy hW0
    go_wp2_with fail
    go_roundw
    case rel=>exact ⟨j + 1,by omega,by go_num,by have h:=KT.out; exact blkcBy,by have h:=KD.out; exact blkcBy,by have h:=KO.out; exact ownBy,by have h:=KP.out; exact ownBy,by have h:=KB.out; exact belBy⟩
    case measure=>simp [intOf]; omega
  ·obtain rfl:j=16:=by omega
   have HO2:=hid ho
   have HB2:=hid hb
   clear ho hb ht hd hpp
   go_wp2_with fail
   ((try simp only [Exit.inBlock,Exit.then]); apply bodyPost_ret0; focus ((try simp only [results,Tryz.results75]); (try go_simp); (try rfl)))
   unfold GivesPair
   rw [labsTo_length]
   exact ⟨_,_,rfl,own_weak HO2.out (by omega),by have hb:=HB2.out; exact belBy⟩
set_option maxRecDepth 100000 in
set_option maxHeartbeats 3200000 in
theorem sTransNo (s a s' a':Int) (A:Option Addr) (c:Nat) (bs:List Int) (p:Int) (w:World) (hc:Cells w w.heap.size A (ints bs)) (hn:bs.length≤1000000000) (h:lbtB s a s' a' bs p=false) :
  Calls Tryz.prog 75 #[.agg #[.int .i64 s,.int .i64 a],.agg #[.int .i64 s',.int .i64 a'],.slice A bs.length c,.int .i64 p] w (GivesPair w [] false):=by
 have HBS:=hid (fun w hc=>sBits A c bs 80 w hc hn)
 have HT1:=hid (fun w=>s_l38 s a w)
 have HT2:=hid (fun w=>s_l38 s' a' w)
 have HC:=hid hc
 clear hc
 have h':((bitsB bs && ((bs.length:Int) == 80)) && inB p 0 4 && (tapeOkB s a && decide (a≤800000)) && (tapeOkB s' a' && decide (a'≤800000)))=false:=by
  have e:((bs.length:Int) == 80)=decide (bs.length=80):=by
   by_cases hh:bs.length=80
   ·simp [hh]
   ·have h9:¬ ((bs.length:Int)=80):=by omega
    simp [hh,h9]
  rw [e]
  unfold lbtB at h
  revert h
  cases decide (bs.length=80) <;> cases bitsB bs <;> cases inB p 0 4 <;> cases tapeOkB s a <;> cases tapeOkB s' a' <;> cases decide (a≤800000) <;> cases decide (a'≤800000) <;> simp
 clear h
 obtain ⟨q1,e1⟩:∃ q,(bitsB bs && ((bs.length:Int) == 80))=q:=⟨_,rfl⟩
 obtain ⟨q2,e2⟩:∃ q,(tapeOkB s a && decide (a≤800000))=q:=⟨_,rfl⟩
 obtain ⟨q3,e3⟩:∃ q,(tapeOkB s' a' && decide (a'≤800000))=q:=⟨_,rfl⟩
 rw [e1] at HBS h'
 rw [e2] at HT1 h'
 rw [e3] at HT2 h'
 clear e1 e2 e3
 cases q1
 case false =>
  go_enter Tryz.func75,Tryz.ntmps75
  go_wp2_with (go_at_call 63; refine (HBS.out _ (by first | exact HC.out | (refine (HC.out.below ?_).more ?_; (focus (exact belBy)); simp; omega))).mono ?_; rintro e w' ⟨rfl,rfl⟩)
  ((try simp only [Exit.inBlock,Exit.then]); apply bodyPost_ret0; focus ((try simp only [results,Tryz.results75]); (try go_simp); (try rfl)))
  refine ⟨some ⟨w.heap.size + 1 + 1,0,none⟩,0,rfl,own_lit (size:=1) #[] 0 (by first | rfl | simp) (by first | omega | (simp; done)) (Nat.zero_le _) rfl,?_⟩
  exact belBy
 cases hp:inB p 0 4
 case false =>
  go_enter Tryz.func75,Tryz.ntmps75
  go_wp2_with (first | (go_at_call 63; refine (HBS.out _ (by first | exact HC.out | (refine (HC.out.below ?_).more ?_; (focus (exact belBy)); simp; omega))).mono ?_; rintro e w' ⟨rfl,rfl⟩) | (go_at_call 123; refine (sWithin _ _ _ _).mono ?_; rintro e w' ⟨rfl,rfl⟩))
  ((try simp only [Exit.inBlock,Exit.then]); apply bodyPost_ret0; focus ((try simp only [results,Tryz.results75]); (try go_simp); (try rfl)))
  refine ⟨some ⟨w.heap.size + 1 + 1,0,none⟩,0,rfl,own_lit (size:=1) #[] 0 (by first | rfl | simp) (by first | omega | (simp; done)) (Nat.zero_le _) rfl,?_⟩
  exact belBy
 cases q2
 case false =>
  have hq0:=HC.out
  go_enter Tryz.func75,Tryz.ntmps75
  have b_0:=(Below.refl w.heap.size w)
  have s_0:=b_0.size
  have q_0:=hq0
  clear hq0
  go_wp2_with fail
  refine calls_forget2 (W:=w) (b0:=w.heap.size) (t0:=27) (c0:=#[.int .i64 s,.int .i64 a]) (b1:=w.heap.size + 1) (t1:=27) (c1:=#[.int .i64 s',.int .i64 a']) ?_ ?_ ?_ ?_
  (focus exact blkcBy)
  (focus exact blkcBy)
  (focus (exact belBy))
  intro X1 t_n d_n hX1
  have sX1:=hX1.size
  have t_lt:=t_n.lt
  have d_lt:=d_n.lt
  refine (HBS.out _ ((cells_below q_0 hX1 (by omega)).more (by omega))).mono ?_
  rintro e w' ⟨rfl,rfl⟩
  have b_1:=b_0.trans (hX1.mono (by omega))
  have q_1:=cells_below q_0 hX1 (by omega)
  have t_1:=t_n
  have d_1:=d_n
  clear q_0 b_0 t_n d_n hX1
  have cell_t:=t_1.cell
  have froz_t:=t_1.frozen
  have lt_t:=t_1.lt
  have cell_d:=d_1.cell
  have froz_d:=d_1.frozen
  have lt_d:=d_1.lt
  go_wp2_with fail
  refine calls_forget0 (W:=X1) ?_ ?_
  (focus (exact belBy))
  intro X2 hX2
  have sX2:=hX2.size
  refine (sWithin _ _ _ _).mono ?_
  rintro e w' ⟨rfl,rfl⟩
  have b_2:=b_1.trans (hX2.mono (by omega))
  have q_2:=cells_below q_1 hX2 (by omega)
  have t_2:=Blk.past hX2 t_1
  have d_2:=Blk.past hX2 d_1
  clear q_1 t_1 d_1 b_1 cell_t froz_t lt_t cell_d froz_d lt_d hX2
  have cell_t:=t_2.cell
  have froz_t:=t_2.frozen
  have lt_t:=t_2.lt
  have cell_d:=d_2.cell
  have froz_d:=d_2.frozen
  have lt_d:=d_2.lt
  go_wp2_with fail
  refine calls_forget0 (W:=X2) ?_ ?_
  (focus (exact belBy))
  intro X3 hX3
  have sX3:=hX3.size
  refine (HT1.out _).mono ?_
  rintro e w3 ⟨rfl,hb3⟩
  have s3:=hb3.size
  have hT3:=hX3.trans (hb3.mono sX3)
  have b_3:=b_2.trans (hT3.mono (by omega))
  have q_3:=cells_below q_2 hT3 (by omega)
  have t_3:=Blk.past hT3 t_2
  have d_3:=Blk.past hT3 d_2
  clear q_2 t_2 d_2 b_2 cell_t froz_t lt_t cell_d froz_d lt_d hX3 hT3 hb3
  have cell_t:=t_3.cell
  have froz_t:=t_3.frozen
  have lt_t:=t_3.lt
  have cell_d:=d_3.cell
  have froz_d:=d_3.frozen
  have lt_d:=d_3.lt
  go_wp2_with fail
  ((try simp only [Exit.inBlock,Exit.then]); apply bodyPost_ret0; focus ((try simp only [results,Tryz.results75]); (try go_simp); (try rfl)))
  refine ⟨some ⟨w3.heap.size,0,none⟩,0,rfl,own_lit (size:=1) #[] 0 (by first | rfl | simp) (by omega) (Nat.zero_le _) rfl,?_⟩
  exact belBy
 cases q3
 case false =>
  have hq0:=HC.out
  go_enter Tryz.func75,Tryz.ntmps75
  have b_0:=(Below.refl w.heap.size w)
  have s_0:=b_0.size
  have q_0:=hq0
  clear hq0
  go_wp2_with fail
  refine calls_forget2 (W:=w) (b0:=w.heap.size) (t0:=27) (c0:=#[.int .i64 s,.int .i64 a]) (b1:=w.heap.size + 1) (t1:=27) (c1:=#[.int .i64 s',.int .i64 a']) ?_ ?_ ?_ ?_
  (focus exact blkcBy)
  (focus exact blkcBy)
  (focus (exact belBy))
  intro X1 t_n d_n hX1
  have sX1:=hX1.size
  have t_lt:=t_n.lt
  have d_lt:=d_n.lt
  refine (HBS.out _ ((cells_below q_0 hX1 (by omega)).more (by omega))).mono ?_
  rintro e w' ⟨rfl,rfl⟩
  have b_1:=b_0.trans (hX1.mono (by omega))
  have q_1:=cells_below q_0 hX1 (by omega)
  have t_1:=t_n
  have d_1:=d_n
  clear q_0 b_0 t_n d_n hX1
  have cell_t:=t_1.cell
  have froz_t:=t_1.frozen
  have lt_t:=t_1.lt
  have cell_d:=d_1.cell
  have froz_d:=d_1.frozen
  have lt_d:=d_1.lt
  go_wp2_with fail
  refine calls_forget0 (W:=X1) ?_ ?_
  (focus (exact belBy))
  intro X2 hX2
  have sX2:=hX2.size
  refine (sWithin _ _ _ _).mono ?_
  rintro e w' ⟨rfl,rfl⟩
  have b_2:=b_1.trans (hX2.mono (by omega))
  have q_2:=cells_below q_1 hX2 (by omega)
  have t_2:=Blk.past hX2 t_1
  have d_2:=Blk.past hX2 d_1
  clear q_1 t_1 d_1 b_1 cell_t froz_t lt_t cell_d froz_d lt_d hX2
  have cell_t:=t_2.cell
  have froz_t:=t_2.frozen
  have lt_t:=t_2.lt
  have cell_d:=d_2.cell
  have froz_d:=d_2.frozen
  have lt_d:=d_2.lt
  go_wp2_with fail
  refine calls_forget0 (W:=X2) ?_ ?_
  (focus (exact belBy))
  intro X3 hX3
  have sX3:=hX3.size
  refine (HT1.out _).mono ?_
  rintro e w3 ⟨rfl,hb3⟩
  have s3:=hb3.size
  have hT3:=hX3.trans (hb3.mono sX3)
  have b_3:=b_2.trans (hT3.mono (by omega))
  have q_3:=cells_below q_2 hT3 (by omega)
  have t_3:=Blk.past hT3 t_2
  have d_3:=Blk.past hT3 d_2
  clear q_2 t_2 d_2 b_2 cell_t froz_t lt_t cell_d froz_d lt_d hX3 hT3 hb3
  have cell_t:=t_3.cell
  have froz_t:=t_3.frozen
  have lt_t:=t_3.lt
  have cell_d:=d_3.cell
  have froz_d:=d_3.frozen
  have lt_d:=d_3.lt
  go_wp2_with fail
  refine calls_forget0 (W:=w3) ?_ ?_
  (focus (exact belBy))
  intro X4 hX4
  have sX4:=hX4.size
  refine (HT2.out _).mono ?_
  rintro e w4 ⟨rfl,hb4⟩
  have s4:=hb4.size
  have hT4:=hX4.trans (hb4.mono sX4)
  have b_4:=b_3.trans (hT4.mono (by omega))
  have q_4:=cells_below q_3 hT4 (by omega)
  have t_4:=Blk.past hT4 t_3
  have d_4:=Blk.past hT4 d_3
  clear q_3 t_3 d_3 b_3 cell_t froz_t lt_t cell_d froz_d lt_d hX4 hT4 hb4
  have cell_t:=t_4.cell
  have froz_t:=t_4.frozen
  have lt_t:=t_4.lt
  have cell_d:=d_4.cell
  have froz_d:=d_4.frozen
  have lt_d:=d_4.lt
  go_wp2_with fail
  ((try simp only [Exit.inBlock,Exit.then]); apply bodyPost_ret0; focus ((try simp only [results,Tryz.results75]); (try go_simp); (try rfl)))
  refine ⟨some ⟨w4.heap.size,0,none⟩,0,rfl,own_lit (size:=1) #[] 0 (by first | rfl | simp) (by omega) (Nat.zero_le _) rfl,?_⟩
  exact belBy
 rw [hp] at h'
 cases h'
theorem sTrans (s a s' a':Int) (A:Option Addr) (c:Nat) (bs:List Int) (p:Int) (w:World) (hc:Cells w w.heap.size A (ints bs)) (hn:bs.length≤1000000000) :
  Calls Tryz.prog 75 #[.agg #[.int .i64 s,.int .i64 a],.agg #[.int .i64 s',.int .i64 a'],.slice A bs.length c,.int .i64 p] w (GivesPair w (lbtL s a s' a' bs p) (lbtB s a s' a' bs p)):=by
 unfold lbtL
 cases h:lbtB s a s' a' bs p
 ·exact sTransNo s a s' a' A c bs p w hc hn h
 ·obtain ⟨hl,hb,hp,h1,h2,h3,h4⟩:=lbt_yes h
  have h0:=sTransYes s a s' a' A c bs p w hc hl hb hp h1 h2 h3 h4
  rw [←hl] at h0 ⊢
  exact h0
open Go.RowKit
theorem o4_take {L:List St} (hL:∀ s∈L,stmtB s=true∧s.o≠12∧s.o≠13):∀ k,k≤L.length→∃ m,(compC (L.take k)).o.length=4 * m
 | 0,_=>⟨0,rfl⟩
 | k + 1,h=>by
  obtain ⟨m,hm⟩:=o4_take hL k (by omega)
  have hok:=ok_take hL k (by omega)
  rw [List.take_succ_eq_append_getElem (by omega),compC_snoc]
  unfold stepC
  split
  ·have hin:=stmt_in (hL _ (List.getElem_mem (by omega:k < L.length))).1
   obtain ⟨_,ha⟩:=hok.reg hin.2.2.1
   exact ⟨m + 1,by rw [List.length_append,word_len ha]; omega⟩
  ·exact ⟨m,hm⟩
theorem cirO_len {L:List St} (hu:unrB L=true):∃ m,(cirO L).length=4 * m∧m≤120:=by
 have e:(cirO L).length=(compL L).o.length:=by
  unfold cirO optC
  rw [prun_outs,simp_outs]
 rw [e,compL_yes hu]
 obtain ⟨m,hm⟩:=o4_take (unrL_ok L) (unrL L).length (Nat.le_refl _)
 rw [List.take_length] at hm
 have h:=(comp_ok L).oh
 have h2:=unrL_len L
 exact ⟨m,hm,by omega⟩
theorem dec_bit {ws ds os:List Int} (hw:∀ x∈ws,labelB x=true) (hd:bitsB ds=true):bitsB (decO ws ds os)=true:=by
 unfold bitsB decO
 rw [List.all_eq_true]
 intro x hx
 obtain ⟨i,_,rfl⟩:=List.mem_mapIdx.1 hx
 refine ask_bit (one_bit (getD_label hw _)) ?_
 rw [List.getD_eq_getElem?_getD]
 cases h:ds[i]? with
 | none=>rfl
 | some y=>exact bitsB_get hd h
open Go.RowKit
theorem iNib (A:Option Addr) (c:Nat) (xs:List Int) (w:World) (hc:Cells w w.heap.size A (ints xs)) (hn:xs.length≤1000000000) :
  Calls Tryz.prog 92 #[.slice A xs.length c] w fun e w'=>e=.returned (.bool (nbB xs))∧w=w':=by
 go_enter Tryz.func92,Tryz.ntmps92
 go_wp2
 go_loop [4,7] (fun _ i=>∃ j:Nat,j≤xs.length∧i=.int .i64 j∧nbB (xs.take j)=true) (fun _ i=>xs.length - (intOf i).toNat)
 case atStart=>exact ⟨0,Nat.zero_le _,rfl,rfl⟩
 case round =>
  obtain ⟨j,hj,rfl,hw⟩:=hrel
  by_cases hlt:j < xs.length
  ·obtain ⟨x,hx⟩:∃ x,xs[j]? = some x:=⟨_,List.getElem?_eq_getElem hlt⟩
   obtain ⟨b,off,rfl,hB,hcl⟩:=hc (by rw [ints_length]; omega)
   have hcell:w.cell? ⟨b,off + j,none⟩=some (.int .i64 x):=hcl j _ (ints_get hx)
   have HW:=hid hw
   have HX:=hid hx
   clear hcl hc hw hx
   cases hb:inB x 0 15
   ·go_wp2_with (go_at_call 56; refine (iWithin _ _ _ _).mono ?_; rintro e w' ⟨rfl,rfl⟩)
    go_ret
    exact ⟨ret_bool (by rw [nbB_no HX.out hb]),rfl⟩
   ·go_wp2_with (go_at_call 56; refine (iWithin _ _ _ _).mono ?_; rintro e w' ⟨rfl,rfl⟩)
    go_round
    case rel=>exact ⟨j + 1,by omega,by go_num,nbB_snoc HX.out HW.out hb⟩
    case measure=>simp [intOf]; omega
  ·obtain rfl:j=xs.length:=by omega
   rw [List.take_length] at hw
   have HW:=hid hw
   clear hw
   go_wp2
   go_ret
   exact ⟨ret_bool HW.out.symm,rfl⟩
theorem iInsOk (A:Option Addr) (c:Nat) (ls:List In1) (w:World) (hc:Cells w w.heap.size A (insW ls)) (hi:InsW w w.heap.size ls) (hn:ls.length≤1000000000) (hm:∀ q∈ls,q.2.2.length≤1000000000) :
  Calls Tryz.prog 46 #[.slice A ls.length c] w fun e w'=>e=.returned (.bool (insB (insN ls)))∧w=w':=by
 have HI:=hid hi
 have HM:=hid hm
 clear hi hm
 go_enter Tryz.func46,Tryz.ntmps46
 go_wp2
 go_loop [4,7] (fun _ i=>∃ j:Nat,j≤ls.length∧i=.int .i64 j∧lnsB ((insN ls).take j)=true) (fun _ i=>ls.length - (intOf i).toNat)
 case atStart=>exact ⟨0,Nat.zero_le _,rfl,rfl⟩
 case round =>
  obtain ⟨j,hj,rfl,hw⟩:=hrel
  by_cases hlt:j < ls.length
  ·obtain ⟨⟨A1,c1,xs⟩,hx⟩:∃ x,ls[j]? = some x:=⟨_,List.getElem?_eq_getElem hlt⟩
   obtain ⟨b,off,rfl,hB,hcl⟩:=hc (by rw [insW_length]; omega)
   have hcell:w.cell? ⟨b,off + j,none⟩=some (.slice A1 xs.length c1):=hcl j _ (insW_get hx)
   have HN:=hid (iNib A1 c1 xs w (HI.out _ _ hx) (HM.out _ (List.mem_of_getElem? hx)))
   have HX:=hid (insN_get hx)
   have HW:=hid hw
   have hlt':(j:Int) < (ls.length:Int):=by omega
   clear hcl hc hw hx
   obtain ⟨m,hm⟩:∃ m,xs.length=m:=⟨_,rfl⟩
   by_cases h4:m=4
   ·subst h4
    rw [hm] at hcell HN
    have HL:=hid hm
    clear hm
    cases hb:nbB xs
    ·rw [hb] at HN
     go_wp2_with (go_at_call 92; (with_reducible refine (HN.out).mono ?_); rintro e w' ⟨rfl,rfl⟩)
     go_ret
     exact ⟨ret_bool (by rw [insB_eq,lnsB_no HX.out (by unfold lnB; rw [hb,Bool.and_false]),Bool.false_and]),rfl⟩
    ·rw [hb] at HN
     go_wp2_with (go_at_call 92; (with_reducible refine (HN.out).mono ?_); rintro e w' ⟨rfl,rfl⟩)
     go_round
     case rel=>exact ⟨j + 1,by omega,by go_num,lnsB_snoc HX.out HW.out (by unfold lnB; rw [hb,Bool.and_true]; exact decide_eq_true HL.out)⟩
     case measure=>simp [intOf]; omega
   ·have HL:=hid hm
    rw [hm] at hcell
    have h4':((m:Int) == 4)=false:=by simp; omega
    have h4'':((m:Int) != 4)=true:=by simp; omega
    clear hm
    go_wp2_with fail
    go_ret
    exact ⟨ret_bool (by rw [insB_eq,lnsB_no HX.out (by unfold lnB; rw [decide_eq_false (by rw [HL.out]; exact h4),Bool.false_and]),Bool.false_and]),rfl⟩
  ·obtain rfl:j=ls.length:=by omega
   rw [show ls.length=(insN ls).length from (insN_length ls).symm,List.take_length] at hw
   have HW:=hid hw
   clear hw
   go_wp2
   go_ret
   exact ⟨ret_bool (by rw [insB_eq,HW.out,insN_length,Bool.true_and,Bool.eq_iff_iff,beq_iff_eq,decide_eq_true_eq]; omega),rfl⟩
set_option maxRecDepth 100000 in
set_option maxHeartbeats 3200000 in
theorem iInBits (A:Option Addr) (c:Nat) (ls:List In1) (w:World) (hc:Cells w w.heap.size A (insW ls)) (hi:InsW w w.heap.size ls) (hb:insB (insN ls)=true) :
  Calls Tryz.prog 48 #[.slice A ls.length c] w fun e w'=>∃ A' c',e=.returned (.slice A' 80 c')∧w'.ownsRow w.heap.size 3 1 (.slice A' 80 c') 80 (ints (inBits (insN ls)))∧Below w.heap.size w w':=by
 have hb2:=hb
 rw [insB_eq,Bool.and_eq_true,decide_eq_true_eq,insN_length] at hb2
 obtain ⟨hlb,h5⟩:=hb2
 have h4:∀ q∈ls,q.2.2.length=4∧nbB q.2.2=true:=fun q hq=>by
  have h:=List.all_eq_true.1 hlb q.2.2 (List.mem_map.2 ⟨q,hq,rfl⟩)
  unfold lnB at h
  rw [Bool.and_eq_true,decide_eq_true_eq] at h
  exact h
 have HM:=hid (fun q (hq:q∈ls)=>(show q.2.2.length≤1000000000 by have:=(h4 q hq).1; omega))
 have HI:=hid hi
 have HC:=hid hc
 have HB:=hid hb
 have H4:=hid h4
 have HT:=hid (fun k (hk:k≤5)=>inBits_take hlb k (by rw [insN_length]; omega))
 have HK:=hid (iInsOk A c ls w hc hi (by omega) (fun q hq=>HM.out q hq))
 rw [hb] at HK
 have H5:=hid h5
 simp only [h5] at HK
 rw [h5]
 obtain ⟨ab,ao,rfl,hB,hcl⟩:=hc (by rw [insW_length]; omega)
 clear hlb h5 hi hb h4
 go_enter Tryz.func48,Tryz.ntmps48
 go_wp2_with (go_at_call 46; (with_reducible refine (HK.out).mono ?_); rintro e w' ⟨rfl,rfl⟩)
 go_loopw [3,5,7,8,15,21] (fun o _ _ _ i _ wr=>∃ k:Nat,k≤5∧i=.int .i64 k∧BitsE w (inBits ((insN ls).take k)) (16 * k) o wr) (fun _ _ _ _ i _ _=>5 - (intOf i).toNat)
 case atStart=>exact ⟨0,Nat.zero_le _,rfl,some ⟨w.heap.size,0,none⟩,0,rfl,rfl,own_lit (size:=1) #[] 0 rfl (Nat.le_refl _) (Nat.zero_le _) rfl,(Below.refl _ _).alloc (Nat.le_refl _) _⟩
 case round =>
  obtain ⟨k,hk,rfl,hS⟩:=hrel
  by_cases hlt:k < 5
  ·obtain ⟨⟨A1,c1,l⟩,hq⟩:∃ q,ls[k]? = some q:=⟨_,List.getElem?_eq_getElem (by have:=H5.out; omega)⟩
   obtain ⟨hl4,hln⟩:=H4.out _ (List.mem_of_getElem? hq)
   dsimp only at hl4 hln
   have hst:=inBits_step (insN_get hq)
   dsimp only at hst
   obtain ⟨b',off',rfl,hB',hcl'⟩:=HI.out k _ hq (by dsimp only; rw [ints_length]; omega)
   have d0:=hcl k _ (insW_get hq)
   dsimp only at d0
   rw [hl4] at d0
   have hlt':(k:Int) < 5:=by omega
   have HD:=hid (show Below w.heap.size w wr from by obtain ⟨_,_,_,_,_,h⟩:=hS; exact h)
   have zw:=HD.out.size
   have HS:=hid hS
   have HST:=hid hst
   have d1:wr.cell? ⟨ab,ao + k,none⟩=some (.slice (some ⟨b',off',none⟩) 4 c1):=(HD.out.cell (p:=⟨ab,ao + k,none⟩) hB).trans d0
   have HCL:=hid (fun (j:Nat) (x:Int) (h:l[j]? = some x)=>hcl' j _ (ints_get h))
   have HL:=hid (And.intro hl4 hln)
   have HX:=hid (And.intro hq d0)
   clear hS hq hst hl4 hln hcl' d0
   go_wp2_with fail
   go_loopw [3,7,8,21] (fun o _ _ i wr=>∃ j:Nat,j≤4∧i=.int .i64 j∧BitsE w (inBits ((insN ls).take k) ++ bits16 (l.take j)) (16 * k + 4 * j) o wr) (fun _ _ _ i _=>4 - (intOf i).toNat)
   case atStart=>exact ⟨0,Nat.zero_le _,rfl,by rw [show bits16 (l.take 0)=[] from rfl,List.append_nil]; exact HS.out⟩
   case round =>
    obtain ⟨j,hj,rfl,hS⟩:=hrel
    by_cases hlt2:j < 4
    ·have hlt2':(j:Int) < 4:=by omega
     obtain ⟨x,hx⟩:∃ x,l[j]? = some x:=⟨_,List.getElem?_eq_getElem (by have:=HL.out.1; omega)⟩
     have hx15:=inB_iff.1 (List.all_eq_true.1 HL.out.2 x (List.mem_of_getElem? hx))
     have HS2:=hid (And.intro hS (bits16_step hx))
     have HD2:=hid (show Below w.heap.size w wr from by obtain ⟨_,_,_,_,_,h⟩:=hS; exact h)
     have zw2:=HD2.out.size
     have d2:wr.cell? ⟨b',off' + j,none⟩=some (.int .i64 x):=(HD2.out.cell (p:=⟨b',off' + j,none⟩) hB').trans (HCL.out j x hx)
     have HX2:=hid hx
     clear hS hx d1
     go_wp2_with fail
     go_loopw [3,8] (fun o i wr=>∃ m:Nat,m≤4∧i=.int .i64 m∧BitsE w (inBits ((insN ls).take k) ++ bits16 (l.take j) ++ (bits4 x).take m) (16 * k + 4 * j + m) o wr) (fun _ i _=>4 - (intOf i).toNat)
     case atStart=>exact ⟨0,Nat.zero_le _,rfl,by rw [List.take_zero,List.append_nil]; exact HS2.out.1⟩
     case round =>
      obtain ⟨m,hm,rfl,A',c',hlen,rfl,hown,hbw⟩:=hrel
      have zw3:=hbw.size
      obtain ⟨xs,hxs⟩:∃ q,inBits ((insN ls).take k) ++ bits16 (l.take j) ++ (bits4 x).take m=q:=⟨_,rfl⟩
      rw [hxs] at hlen hown
      by_cases hlt3:m < 4
      ·have hlt3':(m:Int) < 4:=by omega
       have hbt:=bit_take hx15.1 hx15.2 hlt3
       have HE:=hid (show inBits ((insN ls).take k) ++ bits16 (l.take j) ++ (bits4 x).take (m + 1)=xs ++ [bits .and .i64 (x / 2 ^ m) 1] by rw [hbt,←List.append_assoc,hxs])
       have d1:wr.cell? ⟨ab,ao + k,none⟩=some (.slice (some ⟨b',off',none⟩) 4 c1):=(hbw.cell (p:=⟨ab,ao + k,none⟩) hB).trans HX.out.2
       have d3:wr.cell? ⟨b',off' + j,none⟩=some (.int .i64 x):=(hbw.cell (p:=⟨b',off' + j,none⟩) hB').trans (HCL.out j x HX2.out)
       have HO:=hid (And.intro hown (And.intro hbw hlen))
       clear hbt hxs hown hbw hlen d2
       go_wp2_with (at_builtin; refine app_inti rfl _ _ rfl (base:=w.heap.size) (L:=xs) (v:=Value.slice A' (16 * k + 4 * j + m) c') rfl (HO.out.1.alloc _) (by simp; omega) [bits .and .i64 (x / 2 ^ m) 1] rfl rfl (top_cells _ [_] _) (by omega) ?_)
       intro A3 c3 w3 ho3 hg3 hl3
       have hlo:=own_in HO.out.1
       have HF:=hid (And.intro ho3 (gr_below (grown_alloc hg3) HO.out.2.1 (by omega) (fun p hp=>by have:=(hlo p hp).1; omega)))
       clear ho3 hg3 hl3 hlo d1 d3
       go_wp2
       go_roundw
       case rel=>exact ⟨m + 1,by omega,by go_num,A3,c3,by rw [HE.out,List.length_append,HO.out.2.2]; rfl,rfl,by rw [HE.out]; exact HF.out.1,HF.out.2⟩
       case measure=>simp [intOf]; omega
      ·obtain rfl:m=4:=by omega
       have HF:=hid (And.intro hown (And.intro hbw (And.intro hlen hxs)))
       clear hown hbw hlen hxs d2
       go_wp2
       go_roundw
       case rel =>
        have e:inBits ((insN ls).take k) ++ bits16 (l.take (j + 1))=xs:=by rw [HS2.out.2,←List.append_assoc]; exact HF.out.2.2.2
        exact ⟨j + 1,by omega,by go_num,A',c',by rw [e]; exact HF.out.2.2.1,rfl,by rw [e]; exact HF.out.1,HF.out.2.1⟩
       case measure=>simp [intOf]; omega
    ·obtain rfl:j=4:=by omega
     have HS2:=hid hS
     clear hS d1
     go_wp2
     go_roundw
     case rel =>
      refine ⟨k + 1,by omega,by go_num,?_⟩
      have h:=HS2.out
      rw [show l.take 4=l by rw [←HL.out.1,List.take_length],←HST.out] at h
      exact h
     case measure=>simp [intOf]; omega
  ·obtain rfl:k=5:=by omega
   have h:=hS
   rw [show (insN ls).take 5=insN ls by rw [←H5.out,←insN_length,List.take_length]] at h
   obtain ⟨A',c',hlen,rfl,hown,hbw⟩:=h
   have HF:=hid (And.intro hown hbw)
   clear hS hown hbw hlen
   go_wp2
   go_ret
   exact ⟨A',c',rfl,HF.out.1,HF.out.2⟩
end Go.Proofs.YtihbaieiempjeaaGreat
