/- Lemmas of the proof: UnrI, UnrS. -/
import Derived.Test.YtihbaieiempjeaaGreatD0
import Derived.Test.YtihbaieiempjeaaGreatD12
import Derived.Test.YtihbaieiempjeaaGreatD4
namespace Go.Proofs.YtihbaieiempjeaaGreat
open Go.RowKit
theorem usz_le {t:Tr} (h:t.ok=true) (hd:t.dp≤3) (hl:t.flat.length≤40):t.unr.length≤20480:=by
 rw [unr_length]
 exact us_small h hd hl
theorem repL_le {L:List St} {k n:Nat} (h:k≤n):k * L.length≤n * L.length:=Nat.mul_le_mul_right _ h
set_option linter.unusedVariables false in
set_option maxRecDepth 100000 in
set_option maxHeartbeats 3200000 in
theorem iUnrT:∀ (m:Nat) (t:Tr),t.sz=m→t.ok=true→t.dp≤3→t.flat.length≤40→∀ (A:Option Addr) (c:Nat) (w:World),Cells w w.heap.size A (ints (flatS t.flat))→t.flat.length≤c →
  Calls Tryz.prog 155 #[.slice A t.flat.length c] w fun e w'=>∃ g k,e=.returned (.slice (some ⟨g,0,none⟩) t.unr.length k)∧w.heap.size≤g∧RowS w' g t.unr.length k t.unr∧Below w.heap.size w w':=by
 intro m
 induction m using Nat.strongRecOn with
 | _ m ih =>
  intro t hm hok hdp hl A c w hc hcap
  have hus:=usz_le hok hdp hl
  have HC:=hid hc
  have HM:=hid (fun i w hc hi=>iMatching A c t.flat i w hc (by omega) hi)
  obtain ⟨L,hL⟩:∃ L,t.flat=L:=⟨_,rfl⟩
  obtain ⟨U,hU⟩:∃ U,t.unr=U:=⟨_,rfl⟩
  rw [hL] at HC HM hcap hl
  rw [hL,hU]
  rw [hU] at hus
  clear hc
  go_enter Tryz.func155,Tryz.ntmps155
  go_wp2
  go_loopw [3,4,5,6,7] (fun o i _ _ _ wr=>∃ (j:Nat) (r:Tr) (P:List St) (g k:Nat),j≤L.length∧i=.int .i64 j∧o=.slice (some ⟨g,0,none⟩) P.length k∧r.ok=true∧r.dp≤3∧r.sz≤t.sz∧L.drop j=r.flat∧P ++ r.unr=U∧w.heap.size≤g∧RowS wr g P.length k P∧Below w.heap.size w wr) (fun _ i _ _ _ _=>L.length - (intOf i).toNat)
  case atStart=>exact ⟨0,t,[],w.heap.size,0,Nat.zero_le _,rfl,rfl,hok,hdp,Nat.le_refl _,hL.symm,hU,Nat.le_refl _,Row.new #[] (Nat.zero_le _) rfl rfl,(Below.refl _ _).alloc (Nat.le_refl _) _⟩
  case round =>
   obtain ⟨j,r,P,g,k,hj,rfl,rfl,hrok,hrd,hrs,hr,hu,hg,ho,hb⟩:=hrel
   have zb:=hb.size
   have hgl:=ho.lt
   have hPl:P.length + r.unr.length=U.length:=by rw [←hu,List.length_append]
   cases r with
   | nil =>
    obtain rfl:j=L.length:=by
     have:=congrArg List.length hr
     rw [List.length_drop] at this
     simp [Tr.flat] at this
     omega
    obtain rfl:P=U:=by simpa [Tr.unr] using hu
    have HB:=hid (And.intro ho hb)
    clear hb ho
    go_wp2
    go_returns
    exact ⟨g,k,rfl,hg,HB.out.1,HB.out.2⟩
   | one s r =>
    obtain ⟨hx,hr2⟩:=tree_one hr
    obtain ⟨q,d,a,e,f,n⟩:=s
    obtain ⟨b,off,rfl,hB,d0,d1,d2,d3,d4,d5⟩:=st_cells HC.out hb hx
    have hlt:=(List.getElem?_eq_some_iff.1 hx).1
    have hlt':(j:Int) < (L.length:Int):=by omega
    simp only [Tr.ok,Bool.and_eq_true,Bool.not_eq_true',beq_eq_false_iff_ne] at hrok
    have e1:(q == 12)=false:=by simpa using hrok.2.1
    have e2:(q != 12)=true:=by simp; simpa using hrok.2.1
    have HB:=hid (And.intro ho hb)
    have HR:=hid (And.intro hrok.2.2.2 hr2)
    have hu2:P ++ [⟨q,d,a,e,f,n⟩] ++ r.unr=U:=by simpa [Tr.unr] using hu
    have HU:=hid hu2
    have hd2:r.dp≤3:=hrd
    have hs2:r.sz≤t.sz:=by simp only [Tr.sz] at hrs; omega
    clear hb ho hx hr hr2 hrok hu hrd hrs hu2
    go_wp2_with (at_builtin; refine app_st rfl _ _ rfl rfl (HB.out.1.alloc _) [⟨q,d,a,e,f,n⟩] rfl rfl (top_cells _ (ints [q,d,a,e,f,n]) _) (by omega) ?_)
    intro g' k' w' h1 h2 h3
    have h2:=grown_alloc h2
    have HB2:=hid (below_apps HB.out.2 h2 zb hg)
    have hg':w.heap.size≤g':=by (try simp at h3); omega
    have H1:=hid h1
    clear h1 h2 h3
    go_wp2
    go_roundw
    case rel=>exact ⟨j + 1,r,P ++ [⟨q,d,a,e,f,n⟩],g',k',by omega,by go_num,by rw [List.length_append]; rfl,HR.out.1,hd2,hs2,HR.out.2,HU.out,hg',by rw [List.length_append]; exact H1.out,HB2.out⟩
    case measure=>simp [intOf]; omega
   | loop x bd y r =>
    obtain ⟨hx,hbf,hr2,hle⟩:=tree_loop hr
    have hmt:=mt_loop (R:=[]) hrok
    rw [List.append_nil,←hr] at hmt
    simp only [Tr.ok,Bool.and_eq_true,beq_iff_eq] at hrok
    obtain ⟨h1,h2,h3,h4,h5,h6⟩:=hrok
    have hn:=stmt_loop h1 h2
    obtain ⟨q,d,a,e,f,n⟩:=x
    obtain rfl:q=12:=h2
    obtain ⟨b,off,rfl,hB,d0,_,_,_,_,d5⟩:=st_cells HC.out hb hx
    have hbz:b < wr.heap.size:=by omega
    have hlt':(j:Int) < (L.length:Int):=by omega
    have hdb:bd.dp≤3:=by simp only [Tr.dp] at hrd; omega
    have hdr:r.dp≤3:=by simp only [Tr.dp] at hrd; omega
    have hsb:bd.sz < m:=by simp only [Tr.sz] at hrs; omega
    have hsr:r.sz≤t.sz:=by simp only [Tr.sz] at hrs; omega
    obtain ⟨N,rfl⟩:∃ N:Nat,n=N:=⟨n.toNat,by dsimp only at hn; omega⟩
    dsimp only at hn
    have hu2:P ++ (repL bd.unr N ++ r.unr)=U:=by simpa only [Tr.unr,Int.toNat_natCast] using hu
    have hlen2:P.length + (N * bd.unr.length + r.unr.length)=U.length:=by rw [←hu2,List.length_append,List.length_append,repL_length]
    have hcx:=cells_part HC.out (j + 1) bd.flat.length
    rw [hbf] at hcx
    have HIH:=ih bd.sz hsb bd rfl h3 hdb (by omega) (some ⟨b,off + (j + 1) * 6,none⟩) (c - (j + 1)) wr ((hcx.below hb).more zb) (by omega)
    have HMM:=HM.out j wr ((HC.out.below hb).more zb) (by omega)
    obtain ⟨K,hK⟩:∃ K,bd.flat.length=K:=⟨_,rfl⟩
    rw [hK,show K=j + (1 + K) - (j + 1) by omega] at HIH
    rw [hmt,hK] at HMM
    rw [hK] at hle hr2
    have HIH:=hid HIH
    have HMM:=hid HMM
    have HR:=hid (And.intro h6 hr2)
    obtain ⟨V,hV⟩:∃ V,bd.unr=V:=⟨_,rfl⟩
    rw [hV] at HIH hu2 hlen2
    have HU:=hid hu2
    have HB:=hid (And.intro ho hb)
    have D0:=hid (And.intro d0 d5)
    clear hb ho hx hbf hr hr2 hmt hcx hu hrd hrs h1 h3 h4 h5 h6 hK ih hu2 hV d5
    go_wp2_with (go_at_call 185; refine (HMM.out).mono ?_; rintro e w' ⟨rfl,rfl⟩)
    refine HIH.out.mono ?_
    rintro ee w2 ⟨gb,kb,rfl,hgb,hbo,hb2⟩
    have s2:=hb2.size
    have hbl:=hbo.lt
    have HB2:=hid (And.intro hbo (And.intro (HB.out.1.below hb2) (HB.out.2.trans (hb2.mono zb))))
    have d5:w2.cell? ⟨b,off + j * 6 + 5,none⟩=some (.int .i64 N):=(hb2.cell (p:=⟨b,off + j * 6 + 5,none⟩) hbz).trans D0.out.2
    have D5:=hid d5
    clear hbo hb2 d0 d5 HB D0
    go_wp2
    go_loopw [3,7] (fun o i wx=>∃ (z g1 k1:Nat),z≤N∧i=.int .i64 z∧o=.slice (some ⟨g1,0,none⟩) (P.length + z * V.length) k1∧w.heap.size≤g1∧(g1=g∨w2.heap.size≤g1)∧RowS wx g1 (P.length + z * V.length) k1 (P ++ repL V z)∧RowS wx gb V.length kb V∧wx.cell? ⟨b,off + j * 6 + 5,none⟩=some (.int .i64 N)∧w2.heap.size≤wx.heap.size∧Below w.heap.size w wx) (fun _ i _=>N - (intOf i).toNat)
    case atStart=>exact ⟨0,g,k,Nat.zero_le _,rfl,by rw [Nat.zero_mul]; rfl,hg,.inl rfl,by rw [Nat.zero_mul]; show RowS _ _ _ _ (P ++ []); rw [List.append_nil]; exact HB2.out.2.1,HB2.out.1,D5.out,Nat.le_refl _,HB2.out.2.2⟩
    case round =>
     obtain ⟨z,g1,k1,hz,rfl,rfl,hg1,hgg,ho,hbo,d5,hsz,hb⟩:=hrel
     have zb2:=hb.size
     by_cases hlz:z < N
     ·have hlz':(z:Int) < (N:Int):=by omega
      have hm1:=repL_le (L:=V) (show z + 1≤N by omega)
      rw [Nat.succ_mul] at hm1
      have HO:=hid (And.intro ho (And.intro hbo hb))
      have hgs:=ho.lt
      clear ho hbo hb
      go_wp2_with (at_builtin; refine app_st rfl _ _ rfl rfl HO.out.1 V rfl rfl (row_cells HO.out.2.1) (by omega) ?_)
      intro g' k' w' h1 h2 h3
      have HX:=hid (And.intro h1 (And.intro (HO.out.2.1.grown h2 (by omega)) (And.intro (below_apps HO.out.2.2 h2 zb2 hg1) ((World.cell?_of_block (h2.block b (by omega) (fun e=>by injection e with e; omega))).trans d5))))
      have hs':=h2.size
      clear h1 h2 d5
      go_wp2
      go_roundw
      case rel =>
       refine ⟨z + 1,g',k',by omega,by go_num,by rw [Nat.succ_mul,Nat.add_assoc],by omega,by omega,?_,HX.out.2.1,HX.out.2.2.2,by omega,HX.out.2.2.1⟩
       rw [Nat.succ_mul,←Nat.add_assoc,repL]
       exact HX.out.1
      case measure=>simp [intOf]; omega
     ·obtain rfl:z=N:=by omega
      have hlz':¬ (z:Int) < (z:Int):=by omega
      have HO:=hid (And.intro ho hb)
      clear ho hbo hb
      go_wp2
      go_roundw
      case rel=>exact ⟨j + (1 + K) + 1,r,P ++ repL V z,g1,k1,by omega,by go_num,by rw [List.length_append,repL_length],HR.out.1,hdr,hsr,by rw [show j + (1 + K) + 1=j + 1 + K + 1 by omega]; exact HR.out.2,by rw [List.append_assoc]; exact HU.out,hg1,by rw [List.length_append,repL_length]; exact HO.out.1,HO.out.2⟩
      case measure=>simp [intOf]; omega
set_option linter.unusedVariables false in
set_option maxRecDepth 100000 in
theorem iUnroll (A:Option Addr) (c:Nat) (L:List St) (w:World) (hc:Cells w w.heap.size A (ints (flatS L))) (hn:L.length≤1000000000) (hcap:L.length≤c) :
  Calls Tryz.prog 89 #[.slice A L.length c] w fun e w'=>∃ A' k,e=.returned (.tuple #[.slice A' (unrL L).length k,.bool (unrB L)])∧(unrB L=true→∃ g,A'=some ⟨g,0,none⟩∧w.heap.size≤g∧RowS w' g (unrL L).length k (unrL L))∧Below w.heap.size w w':=by
 have HP:=hid (fun w hc=>iProgOk A c L w hc hn)
 cases hp:progB L
 ·rw [hp] at HP
  have hu:unrB L=false:=by unfold unrB; rw [hp]; rfl
  have HU:=hid (And.intro hu (show unrL L=[] by unfold unrL; rw [hu]; rfl))
  clear hp hu
  go_enter Tryz.func89,Tryz.ntmps89
  have b_0:=(Below.refl w.heap.size w)
  have s_0:=b_0.size
  have l_0:=hc
  clear hc
  go_wp2_with fail
  refine calls_forget0 (W:=w) ?_ ?_
  (focus (exact belBy))
  intro X1 hX1
  have sX1:=hX1.size
  refine (HP.out _ ((cells_below l_0 hX1 (by omega)).more (by omega))).mono ?_
  rintro e w1 ⟨rfl,hb1⟩
  have s1:=hb1.size
  have hT1:=hX1.trans (hb1.mono sX1)
  have b_1:=b_0.trans (hT1.mono (by omega))
  have l_1:=cells_below l_0 hT1 (by omega)
  clear l_0 b_0 hX1 hT1 hb1
  have HB:=hid b_1
  clear b_1 l_1
  go_wp2
  go_returns
  exact ⟨none,0,by rw [HU.out.1,HU.out.2]; rfl,(fun h=>absurd (HU.out.1.symm.trans h) (by decide)),HB.out⟩
 ·rw [hp] at HP
  obtain ⟨hL,hok,hdp,hl⟩:=trOf_ok hp
  have HZ:=hid (fun w hc=>iUszT _ (trOf L) rfl hok hdp hl A c w hc (by rw [←hL]; exact hcap))
  have HR:=hid (fun w hc=>iUnrT _ (trOf L) rfl hok hdp hl A c w hc (by rw [←hL]; exact hcap))
  rw [←hL] at HZ HR
  have hub:unrB L=decide ((trOf L).us≤120):=by unfold unrB; rw [hp]; rfl
  have hsm:=us_small hok hdp hl
  have HUB:=hid hub
  have HLL:=hid (show (trOf L).us≤120→unrL L=(trOf L).unr from fun h=>by unfold unrL; rw [hub,decide_eq_true h]; rfl)
  have HLN:=hid (show ¬ (trOf L).us≤120→unrL L=[] from fun h=>by unfold unrL; rw [hub,decide_eq_false h]; rfl)
  obtain ⟨U,hU⟩:∃ U,(trOf L).us=U:=⟨_,rfl⟩
  rw [hU] at HZ HUB hsm HLL HLN
  clear hp hL hok hdp hl hub hU
  by_cases h120:U≤120
  ·have h120':¬ (120:Int) < (U:Int):=by omega
   have HE:=hid (HLL.out h120)
   have HQ:=hid (show unrB L=true by rw [HUB.out,decide_eq_true h120])
   clear h120 HLL HLN HUB
   go_enter Tryz.func89,Tryz.ntmps89
   have b_0:=(Below.refl w.heap.size w)
   have s_0:=b_0.size
   have l_0:=hc
   clear hc
   go_wp2_with fail
   refine calls_forget0 (W:=w) ?_ ?_
   (focus (exact belBy))
   intro X1 hX1
   have sX1:=hX1.size
   refine (HP.out _ ((cells_below l_0 hX1 (by omega)).more (by omega))).mono ?_
   rintro e w1 ⟨rfl,hb1⟩
   have s1:=hb1.size
   have hT1:=hX1.trans (hb1.mono sX1)
   have b_1:=b_0.trans (hT1.mono (by omega))
   have l_1:=cells_below l_0 hT1 (by omega)
   clear l_0 b_0 hX1 hT1 hb1
   go_wp2_with fail
   refine calls_forget0 (W:=w1) ?_ ?_
   (focus (exact belBy))
   intro X2 hX2
   have sX2:=hX2.size
   refine (HZ.out _ ((cells_below l_1 hX2 (by omega)).more (by omega))).mono ?_
   rintro e w2 ⟨rfl,hb2⟩
   have s2:=hb2.size
   have hT2:=hX2.trans (hb2.mono sX2)
   have b_2:=b_1.trans (hT2.mono (by omega))
   have l_2:=cells_below l_1 hT2 (by omega)
   clear l_1 b_1 hX2 hT2 hb2
   have HB:=hid b_2
   have HL2:=hid l_2
   clear b_2 l_2
   go_wp2_with fail
   refine (HR.out _ (HL2.out.more (by have:=HB.out.size; omega))).mono ?_
   rintro e w' ⟨g,k,rfl,hg,ho,hb⟩
   have HO:=hid (And.intro ho (HB.out.trans (hb.mono HB.out.size)))
   have hge:w.heap.size≤g:=Nat.le_trans HB.out.size hg
   clear ho hb
   go_wp2
   go_returns
   refine ⟨some ⟨g,0,none⟩,k,by rw [HQ.out,HE.out]; rfl,(fun _=>⟨g,rfl,hge,?_⟩),HO.out.2⟩
   rw [HE.out]
   exact HO.out.1
  ·have h120':(120:Int) < (U:Int):=by omega
   have HE:=hid (HLN.out h120)
   have HQ:=hid (show unrB L=false by rw [HUB.out,decide_eq_false h120])
   clear h120 HLL HLN HUB
   go_enter Tryz.func89,Tryz.ntmps89
   have b_0:=(Below.refl w.heap.size w)
   have s_0:=b_0.size
   have l_0:=hc
   clear hc
   go_wp2_with fail
   refine calls_forget0 (W:=w) ?_ ?_
   (focus (exact belBy))
   intro X1 hX1
   have sX1:=hX1.size
   refine (HP.out _ ((cells_below l_0 hX1 (by omega)).more (by omega))).mono ?_
   rintro e w1 ⟨rfl,hb1⟩
   have s1:=hb1.size
   have hT1:=hX1.trans (hb1.mono sX1)
   have b_1:=b_0.trans (hT1.mono (by omega))
   have l_1:=cells_below l_0 hT1 (by omega)
   clear l_0 b_0 hX1 hT1 hb1
   go_wp2_with fail
   refine calls_forget0 (W:=w1) ?_ ?_
   (focus (exact belBy))
   intro X2 hX2
   have sX2:=hX2.size
   refine (HZ.out _ ((cells_below l_1 hX2 (by omega)).more (by omega))).mono ?_
   rintro e w2 ⟨rfl,hb2⟩
   have s2:=hb2.size
   have hT2:=hX2.trans (hb2.mono sX2)
   have b_2:=b_1.trans (hT2.mono (by omega))
   have l_2:=cells_below l_1 hT2 (by omega)
   clear l_1 b_1 hX2 hT2 hb2
   have HB:=hid b_2
   clear b_2 l_2
   go_wp2
   go_returns
   exact ⟨none,0,by rw [HQ.out,HE.out]; rfl,(fun h=>absurd (HQ.out.symm.trans h) (by decide)),HB.out⟩
open Go.RowKit
theorem tail_one {L R:List St} {s:St} {r:Tr} {j:Nat} (h:L.drop j=(Tr.one s r).flat ++ R):L[j]? = some s∧L.drop (j + 1)=r.flat ++ R:=by
 have h0:L.drop j=s :: (r.flat ++ R):=h
 constructor
 ·have h1:(L.drop j)[0]? = some s:=by rw [h0]; rfl
  rw [List.getElem?_drop] at h1
  exact h1
 ·rw [←List.drop_drop,h0]
  rfl
theorem tail_loop {L R:List St} {x e:St} {b r:Tr} {j:Nat} (h:L.drop j=(Tr.loop x b e r).flat ++ R) :
  L[j]? = some x∧L.drop (j + 1)=b.flat ++ (e :: (r.flat ++ R))∧L.drop (j + 1 + b.flat.length + 1)=r.flat ++ R∧j + 1 + b.flat.length + 1≤L.length:=by
 have h0:L.drop j=x :: (b.flat ++ (e :: (r.flat ++ R))):=by rw [h,Tr.flat]; simp
 have h2:L.drop (j + 1)=b.flat ++ (e :: (r.flat ++ R)):=by
  rw [←List.drop_drop,h0]
  rfl
 refine ⟨?_,h2,?_,?_⟩
 ·have h1:(L.drop j)[0]? = some x:=by rw [h0]; rfl
  rw [List.getElem?_drop] at h1
  exact h1
 ·rw [show j + 1 + b.flat.length + 1=(j + 1) + (b.flat.length + 1) by omega,←List.drop_drop,h2,←List.drop_drop,List.drop_append_of_le_length (Nat.le_refl _),List.drop_length]
  rfl
 ·have h3:(L.drop (j + 1)).length=(b.flat ++ (e :: (r.flat ++ R))).length:=by rw [h2]
  rw [List.length_drop,List.length_append,List.length_cons] at h3
  omega
def Shut (R:List St):Prop:=R=[]∨∃ e R',R=e :: R'∧e.o=13
theorem shut_at {L R:List St} {j:Nat} (h:L.drop j=R) (hs:Shut R) (hj:j≤L.length):j=L.length∨∃ d a e f n,L[j]? = some ⟨13,d,a,e,f,n⟩:=by
 rcases hs with rfl | ⟨⟨o,d,a,e,f,n⟩,R',rfl,ho⟩
 ·left
  have:=List.drop_eq_nil_iff.1 h
  omega
 ·right
  obtain rfl:o=13:=ho
  refine ⟨d,a,e,f,n,?_⟩
  have h1:(L.drop j)[0]? = some ⟨13,d,a,e,f,n⟩:=by rw [h]; rfl
  rw [List.getElem?_drop] at h1
  exact h1
set_option linter.unusedVariables false in
set_option maxRecDepth 100000 in
set_option maxHeartbeats 3200000 in
theorem sSizeT:∀ (m:Nat) (t:Tr),t.sz=m→t.ok=true→t.dp≤3→∀ (L R:List St) (i:Nat),L.length≤40→i≤L.length→L.drop i=t.flat ++ R→Shut R→∀ (A:Option Addr) (c:Nat) (w:World),Cells w w.heap.size A (ints (flatS L)) →
  Calls Tryz.prog 150 #[.slice A L.length c,.int .i64 i] w fun e w'=>e=.returned (.tuple #[.int .i64 (t.us:Int),.int .i64 ((i + t.flat.length:Nat):Int)])∧w=w':=by
 intro m
 induction m using Nat.strongRecOn with
 | _ m ih =>
  intro t hm hok hdp L R i hl hi hLR hsh A c w hc
  have htl:t.flat.length≤40:=by
   have:=congrArg List.length hLR
   rw [List.length_drop,List.length_append] at this
   omega
  have hus:=us_small hok hdp htl
  have HC:=hid hc
  obtain ⟨J,hJ⟩:∃ J,i + t.flat.length=J:=⟨_,rfl⟩
  obtain ⟨U,hU⟩:∃ U,t.us=U:=⟨_,rfl⟩
  rw [hJ,hU]
  rw [hU] at hus
  clear hc
  go_enter Tryz.func150,Tryz.ntmps150
  go_wp2
  go_loop [1,6,7,8] (fun p n _ _=>∃ (j:Nat) (r:Tr) (u:Nat),j≤L.length∧p=.int .i64 j∧n=.int .i64 u∧r.ok=true∧r.dp≤3∧r.sz≤t.sz∧L.drop j=r.flat ++ R∧u + r.us=U∧j + r.flat.length=J) (fun p _ _ _=>L.length - (intOf p).toNat)
  case atStart=>exact ⟨i,t,0,hi,rfl,rfl,hok,hdp,Nat.le_refl _,hLR,by omega,hJ⟩
  case round =>
   obtain ⟨j,r,u,hj,rfl,rfl,hrok,hrd,hrs,hr,hu,hjj⟩:=hrel
   cases r with
   | nil =>
    have HU:=hid (And.intro (show u=U by simpa [Tr.us] using hu) (show j=J by simpa [Tr.flat] using hjj))
    rcases shut_at (by simpa [Tr.flat] using hr) hsh hj with rfl | ⟨d,a,e,f,n,hx⟩
    ·go_wp2
     go_returns
     exact ⟨by rw [HU.out.1,HU.out.2]; rfl,rfl⟩
    ·obtain ⟨b,off,rfl,hB,d0,_,_,_,_,_⟩:=st_cells HC.out (Below.refl _ _) hx
     have hlt:=(List.getElem?_eq_some_iff.1 hx).1
     have hlt':(j:Int) < (L.length:Int):=by omega
     clear hx hr
     go_wp2
     go_returns
     exact ⟨by rw [HU.out.1,HU.out.2]; rfl,rfl⟩
   | one s r =>
    obtain ⟨hx,hr2⟩:=tail_one hr
    obtain ⟨o,d,a,e,g,n⟩:=s
    obtain ⟨b,off,rfl,hB,d0,_,_,_,_,_⟩:=st_cells HC.out (Below.refl _ _) hx
    have hlt:=(List.getElem?_eq_some_iff.1 hx).1
    have hlt':(j:Int) < (L.length:Int):=by omega
    simp only [Tr.ok,Bool.and_eq_true,Bool.not_eq_true',beq_eq_false_iff_ne] at hrok
    have e1:(o != 12)=true:=by simp; simpa using hrok.2.1
    have e2:(o != 13)=true:=by simp; simpa using hrok.2.2.1
    have HR:=hid (And.intro hrok.2.2.2 hr2)
    have hu2:u + 1 + r.us=U:=by simp only [Tr.us] at hu; omega
    have hd2:r.dp≤3:=hrd
    have hs2:r.sz≤t.sz:=by simp only [Tr.sz] at hrs; omega
    have hj2:j + 1 + r.flat.length=J:=by simp only [Tr.flat,List.length_cons] at hjj; omega
    clear hx hr hr2 hrok hu hrd hrs hjj
    go_wp2
    go_round
    case rel=>exact ⟨j + 1,r,u + 1,by omega,by go_num,by go_num,HR.out.1,hd2,hs2,HR.out.2,hu2,hj2⟩
    case measure=>simp [intOf]; omega
   | loop x bd y r =>
    obtain ⟨hx,hbf,hr2,hle⟩:=tail_loop hr
    simp only [Tr.ok,Bool.and_eq_true,beq_iff_eq] at hrok
    obtain ⟨h1,h2,h3,h4,h5,h6⟩:=hrok
    have hn:=stmt_loop h1 h2
    obtain ⟨o,d,a,e,g,n⟩:=x
    obtain rfl:o=12:=h2
    obtain ⟨b,off,rfl,hB,d0,_,_,_,_,d5⟩:=st_cells HC.out (Below.refl _ _) hx
    have hlt':(j:Int) < (L.length:Int):=by omega
    have hdb:bd.dp≤3:=by simp only [Tr.dp] at hrd; omega
    have hdr:r.dp≤3:=by simp only [Tr.dp] at hrd; omega
    have hsb:bd.sz < m:=by simp only [Tr.sz] at hrs; omega
    have hsr:r.sz≤t.sz:=by simp only [Tr.sz] at hrs; omega
    have hbs:=us_small h3 hdb (by omega)
    obtain ⟨N,rfl⟩:∃ N:Nat,n=N:=⟨n.toNat,by dsimp only at hn; omega⟩
    dsimp only at hn
    have hu2:u + bd.us * N + r.us=U:=by simp only [Tr.us,Int.toNat_natCast] at hu; rw [Nat.mul_comm]; omega
    have hj2:j + 1 + bd.flat.length + 1 + r.flat.length=J:=by simp only [Tr.flat,List.length_cons,List.length_append] at hjj; omega
    have HIH:=hid (ih bd.sz hsb bd rfl h3 hdb L (y :: (r.flat ++ R)) (j + 1) hl (by omega) hbf (.inr ⟨y,_,rfl,h5⟩) (some ⟨b,off,none⟩) c w HC.out)
    obtain ⟨K,hK⟩:∃ K,j + 1 + bd.flat.length=K:=⟨_,rfl⟩
    rw [hK] at HIH hr2 hle hj2
    have hNb:bd.us * N≤20480 * 8:=Nat.mul_le_mul hbs (by omega)
    obtain ⟨V,hV⟩:∃ V,bd.us=V:=⟨_,rfl⟩
    rw [hV] at HIH hu2 hNb
    obtain ⟨Q,hQ⟩:∃ Q,V * N=Q:=⟨_,rfl⟩
    have hmul:(V:Int) * (N:Int)=(Q:Int):=by rw [←hQ]; simp
    rw [hQ] at hu2 hNb
    have hjK:j < K:=by omega
    have HR:=hid (And.intro h6 hr2)
    clear hx hbf hr hr2 hu hrd hrs h1 h3 h4 h5 h6 hbs hV hK hQ ih hjj
    go_wp2_with (go_at_call 150; refine (HIH.out).mono ?_; rintro e w' ⟨rfl,rfl⟩)
    go_round
    case rel=>exact ⟨K + 1,r,u + Q,by omega,by go_num,by go_num,HR.out.1,hdr,hsr,HR.out.2,hu2,hj2⟩
    case measure=>simp [intOf]; omega
set_option linter.unusedVariables false in
theorem sUsz (A:Option Addr) (c:Nat) (L:List St) (w:World) (hc:Cells w w.heap.size A (ints (flatS L))) (hn:L.length≤1000000000) :
  Calls Tryz.prog 82 #[.slice A L.length c] w fun e w'=>e=.returned (.int .i64 (uszI L))∧Below w.heap.size w w':=by
 have HP:=hid (fun w hc=>sProgOk A c L w hc hn)
 cases hp:progB L
 ·rw [hp] at HP
  have HU:=hid (show uszI L = -1 by unfold uszI; rw [hp]; rfl)
  clear hp
  go_enter Tryz.func82,Tryz.ntmps82
  have b_0:=(Below.refl w.heap.size w)
  have s_0:=b_0.size
  have l_0:=hc
  clear hc
  go_wp2_with fail
  refine calls_forget0 (W:=w) ?_ ?_
  (focus (exact belBy))
  intro X1 hX1
  have sX1:=hX1.size
  refine (HP.out _ ((cells_below l_0 hX1 (by omega)).more (by omega))).mono ?_
  rintro e w1 ⟨rfl,hb1⟩
  have s1:=hb1.size
  have hT1:=hX1.trans (hb1.mono sX1)
  have b_1:=b_0.trans (hT1.mono (by omega))
  have l_1:=cells_below l_0 hT1 (by omega)
  clear l_0 b_0 hX1 hT1 hb1
  have HB:=hid b_1
  clear b_1 l_1
  go_wp2
  go_ret
  exact ⟨by rw [HU.out]; rfl,HB.out⟩
 ·rw [hp] at HP
  obtain ⟨hL,hok,hdp,hl⟩:=trOf_ok hp
  have HZ:=hid (fun w hc=>sSizeT _ (trOf L) rfl hok hdp L [] 0 (by rw [hL]; exact hl) (Nat.zero_le _) (by rw [List.append_nil]; exact hL) (.inl rfl) A c w hc)
  have HU:=hid (show uszI L=((trOf L).us:Int) by unfold uszI; rw [hp]; rfl)
  clear hp hL hok hdp hl
  go_enter Tryz.func82,Tryz.ntmps82
  have b_0:=(Below.refl w.heap.size w)
  have s_0:=b_0.size
  have l_0:=hc
  clear hc
  go_wp2_with fail
  refine calls_forget0 (W:=w) ?_ ?_
  (focus (exact belBy))
  intro X1 hX1
  have sX1:=hX1.size
  refine (HP.out _ ((cells_below l_0 hX1 (by omega)).more (by omega))).mono ?_
  rintro e w1 ⟨rfl,hb1⟩
  have s1:=hb1.size
  have hT1:=hX1.trans (hb1.mono sX1)
  have b_1:=b_0.trans (hT1.mono (by omega))
  have l_1:=cells_below l_0 hT1 (by omega)
  clear l_0 b_0 hX1 hT1 hb1
  go_wp2_with fail
  refine calls_forget0 (W:=w1) ?_ ?_
  (focus (exact belBy))
  intro X2 hX2
  have sX2:=hX2.size
  refine (HZ.out _ ((cells_below l_1 hX2 (by omega)).more (by omega))).mono ?_
  rintro e w' ⟨rfl,rfl⟩
  have b_2:=b_1.trans (hX2.mono (by omega))
  have l_2:=cells_below l_1 hX2 (by omega)
  clear l_1 b_1 hX2
  have HB:=hid b_2
  clear b_2 l_2
  go_wp2
  go_ret
  exact ⟨by rw [HU.out]; rfl,HB.out⟩
set_option linter.unusedVariables false in
set_option maxRecDepth 100000 in
set_option maxHeartbeats 3200000 in
theorem sBlockT:∀ (m:Nat) (t:Tr),t.sz=m→t.ok=true→t.dp≤3→∀ (L R:List St) (i:Nat),L.length≤40→i≤L.length→L.drop i=t.flat ++ R→Shut R→∀ (A:Option Addr) (c:Nat) (w:World),Cells w w.heap.size A (ints (flatS L)) →
  Calls Tryz.prog 83 #[.slice A L.length c,.int .i64 i] w fun e w'=>∃ g k,e=.returned (.tuple #[.slice (some ⟨g,0,none⟩) t.unr.length k,.int .i64 ((i + t.flat.length:Nat):Int)])∧w.heap.size≤g∧RowS w' g t.unr.length k t.unr∧Below w.heap.size w w':=by
 intro m
 induction m using Nat.strongRecOn with
 | _ m ih =>
  intro t hm hok hdp L R i hl hi hLR hsh A c w hc
  have htl:t.flat.length≤40:=by
   have:=congrArg List.length hLR
   rw [List.length_drop,List.length_append] at this
   omega
  have hus:=usz_le hok hdp htl
  have HC:=hid hc
  obtain ⟨J,hJ⟩:∃ J,i + t.flat.length=J:=⟨_,rfl⟩
  obtain ⟨U,hU⟩:∃ U,t.unr=U:=⟨_,rfl⟩
  rw [hJ,hU]
  rw [hU] at hus
  clear hc
  go_enter Tryz.func83,Tryz.ntmps83
  go_wp2
  go_loopw [1,6,7,8,9] (fun p o _ _ _ wr=>∃ (j:Nat) (r:Tr) (P:List St) (g k:Nat),j≤L.length∧p=.int .i64 j∧o=.slice (some ⟨g,0,none⟩) P.length k∧r.ok=true∧r.dp≤3∧r.sz≤t.sz∧L.drop j=r.flat ++ R∧P ++ r.unr=U∧j + r.flat.length=J∧w.heap.size≤g∧RowS wr g P.length k P∧Below w.heap.size w wr) (fun p _ _ _ _ _=>L.length - (intOf p).toNat)
  case atStart=>exact ⟨i,t,[],w.heap.size,0,hi,rfl,rfl,hok,hdp,Nat.le_refl _,hLR,hU,hJ,Nat.le_refl _,Row.new #[] (Nat.zero_le _) rfl rfl,(Below.refl _ _).alloc (Nat.le_refl _) _⟩
  case round =>
   obtain ⟨j,r,P,g,k,hj,rfl,rfl,hrok,hrd,hrs,hr,hu,hjj,hg,ho,hb⟩:=hrel
   have zb:=hb.size
   have hgl:=ho.lt
   have hPl:P.length + r.unr.length=U.length:=by rw [←hu,List.length_append]
   cases r with
   | nil =>
    have hP:P=U:=by simpa [Tr.unr] using hu
    have hjJ:j=J:=by simpa [Tr.flat] using hjj
    subst hP
    have HU:=hid hjJ
    have HB:=hid (And.intro ho hb)
    rcases shut_at (by simpa [Tr.flat] using hr) hsh hj with rfl | ⟨d,a,e,f,n,hx⟩
    ·clear ho hb hjJ
     go_wp2
     go_returns
     exact ⟨g,k,by rw [HU.out]; rfl,hg,HB.out.1,HB.out.2⟩
    ·obtain ⟨b,off,rfl,hB,d0,_,_,_,_,_⟩:=st_cells HC.out hb hx
     have hlt:=(List.getElem?_eq_some_iff.1 hx).1
     have hlt':(j:Int) < (L.length:Int):=by omega
     clear hx hr ho hb hjJ
     go_wp2
     go_returns
     exact ⟨g,k,by rw [HU.out]; rfl,hg,HB.out.1,HB.out.2⟩
   | one s r =>
    obtain ⟨hx,hr2⟩:=tail_one hr
    obtain ⟨q,d,a,e,f,n⟩:=s
    obtain ⟨b,off,rfl,hB,d0,d1,d2,d3,d4,d5⟩:=st_cells HC.out hb hx
    have hlt:=(List.getElem?_eq_some_iff.1 hx).1
    have hlt':(j:Int) < (L.length:Int):=by omega
    simp only [Tr.ok,Bool.and_eq_true,Bool.not_eq_true',beq_eq_false_iff_ne] at hrok
    have e2:(q != 12)=true:=by simp; simpa using hrok.2.1
    have e3:(q != 13)=true:=by simp; simpa using hrok.2.2.1
    have HB:=hid (And.intro ho hb)
    have HR:=hid (And.intro hrok.2.2.2 hr2)
    have HU:=hid (show P ++ [⟨q,d,a,e,f,n⟩] ++ r.unr=U by simpa [Tr.unr] using hu)
    have hd2:r.dp≤3:=hrd
    have hs2:r.sz≤t.sz:=by simp only [Tr.sz] at hrs; omega
    have hj2:j + 1 + r.flat.length=J:=by simp only [Tr.flat,List.length_cons] at hjj; omega
    clear hb ho hx hr hr2 hrok hu hrd hrs hjj
    go_wp2_with (at_builtin; refine app_st rfl _ _ rfl rfl (HB.out.1.alloc _) [⟨q,d,a,e,f,n⟩] rfl rfl (top_cells _ (ints [q,d,a,e,f,n]) _) (by omega) ?_)
    intro g' k' w' h1 h2 h3
    have h2:=grown_alloc h2
    have HB2:=hid (below_apps HB.out.2 h2 zb hg)
    have hg':w.heap.size≤g':=by (try simp at h3); omega
    have H1:=hid h1
    clear h1 h2 h3
    go_wp2
    go_roundw
    case rel=>exact ⟨j + 1,r,P ++ [⟨q,d,a,e,f,n⟩],g',k',by omega,by go_num,by rw [List.length_append]; rfl,HR.out.1,hd2,hs2,HR.out.2,HU.out,hj2,hg',by rw [List.length_append]; exact H1.out,HB2.out⟩
    case measure=>simp [intOf]; omega
   | loop x bd y r =>
    obtain ⟨hx,hbf,hr2,hle⟩:=tail_loop hr
    simp only [Tr.ok,Bool.and_eq_true,beq_iff_eq] at hrok
    obtain ⟨h1,h2,h3,h4,h5,h6⟩:=hrok
    have hn:=stmt_loop h1 h2
    obtain ⟨q,d,a,e,f,n⟩:=x
    obtain rfl:q=12:=h2
    obtain ⟨b,off,rfl,hB,d0,_,_,_,_,d5⟩:=st_cells HC.out hb hx
    have hbz:b < wr.heap.size:=by omega
    have hlt':(j:Int) < (L.length:Int):=by omega
    have hdb:bd.dp≤3:=by simp only [Tr.dp] at hrd; omega
    have hdr:r.dp≤3:=by simp only [Tr.dp] at hrd; omega
    have hsb:bd.sz < m:=by simp only [Tr.sz] at hrs; omega
    have hsr:r.sz≤t.sz:=by simp only [Tr.sz] at hrs; omega
    obtain ⟨N,rfl⟩:∃ N:Nat,n=N:=⟨n.toNat,by dsimp only at hn; omega⟩
    dsimp only at hn
    have hu2:P ++ (repL bd.unr N ++ r.unr)=U:=by simpa only [Tr.unr,Int.toNat_natCast] using hu
    have hlen2:P.length + (N * bd.unr.length + r.unr.length)=U.length:=by rw [←hu2,List.length_append,List.length_append,repL_length]
    have hj2:j + 1 + bd.flat.length + 1 + r.flat.length=J:=by simp only [Tr.flat,List.length_cons,List.length_append] at hjj; omega
    have HIH:=hid (ih bd.sz hsb bd rfl h3 hdb L (y :: (r.flat ++ R)) (j + 1) hl (by omega) hbf (.inr ⟨y,_,rfl,h5⟩) (some ⟨b,off,none⟩) c wr ((HC.out.below hb).more zb))
    obtain ⟨K,hK⟩:∃ K,j + 1 + bd.flat.length=K:=⟨_,rfl⟩
    rw [hK] at HIH hr2 hle hj2
    obtain ⟨V,hV⟩:∃ V,bd.unr=V:=⟨_,rfl⟩
    rw [hV] at HIH hu2 hlen2
    have hjK:j < K:=by omega
    have HR:=hid (And.intro h6 hr2)
    have HU:=hid hu2
    have HB:=hid (And.intro ho hb)
    have D0:=hid (And.intro d0 d5)
    clear hb ho hx hbf hr hr2 hu hrd hrs h1 h3 h4 h5 h6 hK ih hu2 hV d5 hjj
    go_wp2_with fail
    refine HIH.out.mono ?_
    rintro ee w2 ⟨gb,kb,rfl,hgb,hbo,hb2⟩
    have s2:=hb2.size
    have hbl:=hbo.lt
    have HB2:=hid (And.intro hbo (And.intro (HB.out.1.below hb2) (HB.out.2.trans (hb2.mono zb))))
    have d5:w2.cell? ⟨b,off + j * 6 + 5,none⟩=some (.int .i64 N):=(hb2.cell (p:=⟨b,off + j * 6 + 5,none⟩) hbz).trans D0.out.2
    have D5:=hid d5
    clear hbo hb2 d0 d5 HB D0
    go_wp2
    go_loopw [6,9] (fun o i wx=>∃ (z g1 k1:Nat),z≤N∧i=.int .i64 z∧o=.slice (some ⟨g1,0,none⟩) (P.length + z * V.length) k1∧w.heap.size≤g1∧(g1=g∨w2.heap.size≤g1)∧RowS wx g1 (P.length + z * V.length) k1 (P ++ repL V z)∧RowS wx gb V.length kb V∧wx.cell? ⟨b,off + j * 6 + 5,none⟩=some (.int .i64 N)∧w2.heap.size≤wx.heap.size∧Below w.heap.size w wx) (fun _ i _=>N - (intOf i).toNat)
    case atStart=>exact ⟨0,g,k,Nat.zero_le _,rfl,by rw [Nat.zero_mul]; rfl,hg,.inl rfl,by rw [Nat.zero_mul]; show RowS _ _ _ _ (P ++ []); rw [List.append_nil]; exact HB2.out.2.1,HB2.out.1,D5.out,Nat.le_refl _,HB2.out.2.2⟩
    case round =>
     obtain ⟨z,g1,k1,hz,rfl,rfl,hg1,hgg,ho,hbo,d5,hsz,hb⟩:=hrel
     have zb2:=hb.size
     by_cases hlz:z < N
     ·have hlz':(z:Int) < (N:Int):=by omega
      have hm1:=repL_le (L:=V) (show z + 1≤N by omega)
      rw [Nat.succ_mul] at hm1
      have HO:=hid (And.intro ho (And.intro hbo hb))
      have hgs:=ho.lt
      clear ho hbo hb
      go_wp2_with (at_builtin; refine app_st rfl _ _ rfl rfl HO.out.1 V rfl rfl (row_cells HO.out.2.1) (by omega) ?_)
      intro g' k' w' h1 h2 h3
      have HX:=hid (And.intro h1 (And.intro (HO.out.2.1.grown h2 (by omega)) (And.intro (below_apps HO.out.2.2 h2 zb2 hg1) ((World.cell?_of_block (h2.block b (by omega) (fun e=>by injection e with e; omega))).trans d5))))
      have hs':=h2.size
      clear h1 h2 d5
      go_wp2
      go_roundw
      case rel =>
       refine ⟨z + 1,g',k',by omega,by go_num,by rw [Nat.succ_mul,Nat.add_assoc],by omega,by omega,?_,HX.out.2.1,HX.out.2.2.2,by omega,HX.out.2.2.1⟩
       rw [Nat.succ_mul,←Nat.add_assoc,repL]
       exact HX.out.1
      case measure=>simp [intOf]; omega
     ·obtain rfl:z=N:=by omega
      have hlz':¬ (z:Int) < (z:Int):=by omega
      have HO:=hid (And.intro ho hb)
      clear ho hbo hb
      go_wp2
      go_roundw
      case rel=>exact ⟨K + 1,r,P ++ repL V z,g1,k1,by omega,by go_num,by rw [List.length_append,repL_length],HR.out.1,hdr,hsr,HR.out.2,by rw [List.append_assoc]; exact HU.out,hj2,hg1,by rw [List.length_append,repL_length]; exact HO.out.1,HO.out.2⟩
      case measure=>simp [intOf]; omega
set_option linter.unusedVariables false in
set_option maxRecDepth 100000 in
theorem sUnroll (A:Option Addr) (c:Nat) (L:List St) (w:World) (hc:Cells w w.heap.size A (ints (flatS L))) (hn:L.length≤1000000000) :
  Calls Tryz.prog 41 #[.slice A L.length c] w fun e w'=>∃ g k,e=.returned (.tuple #[.slice (some ⟨g,0,none⟩) (unrL L).length k,.bool (unrB L)])∧w.heap.size≤g∧RowS w' g (unrL L).length k (unrL L)∧Below w.heap.size w w':=by
 have HZ:=hid (fun w hc=>sUsz A c L w hc hn)
 cases hp:progB L
 ·have hz:uszI L = -1:=by unfold uszI; rw [hp]; rfl
  rw [hz] at HZ
  have hu:unrB L=false:=by unfold unrB; rw [hp]; rfl
  have HU:=hid (And.intro hu (show unrL L=[] by unfold unrL; rw [hu]; rfl))
  clear hp hu hz
  go_enter Tryz.func41,Tryz.ntmps41
  have b_0:=(Below.refl w.heap.size w)
  have s_0:=b_0.size
  have l_0:=hc
  clear hc
  go_wp2_with fail
  refine calls_forget0 (W:=w) ?_ ?_
  (focus (exact belBy))
  intro X1 hX1
  have sX1:=hX1.size
  refine (HZ.out _ ((cells_below l_0 hX1 (by omega)).more (by omega))).mono ?_
  rintro e w1 ⟨rfl,hb1⟩
  have s1:=hb1.size
  have hT1:=hX1.trans (hb1.mono sX1)
  have b_1:=b_0.trans (hT1.mono (by omega))
  have l_1:=cells_below l_0 hT1 (by omega)
  clear l_0 b_0 hX1 hT1 hb1
  have HB:=hid b_1
  have z1:=b_1.size
  clear b_1 l_1
  go_wp2
  go_returns
  exact ⟨w1.heap.size,0,by rw [HU.out.1,HU.out.2]; rfl,z1,by rw [HU.out.2]; exact Row.new #[] (Nat.zero_le _) rfl rfl,HB.out.alloc z1 _⟩
 ·obtain ⟨hL,hok,hdp,hl⟩:=trOf_ok hp
  have hz:uszI L=((trOf L).us:Int):=by unfold uszI; rw [hp]; rfl
  rw [hz] at HZ
  have HR:=hid (fun w hc=>sBlockT _ (trOf L) rfl hok hdp L [] 0 (by rw [hL]; exact hl) (Nat.zero_le _) (by rw [List.append_nil]; exact hL) (.inl rfl) A c w hc)
  have hub:unrB L=decide ((trOf L).us≤120):=by unfold unrB; rw [hp]; rfl
  have hsm:=us_small hok hdp hl
  have HUB:=hid hub
  have HLL:=hid (show (trOf L).us≤120→unrL L=(trOf L).unr from fun h=>by unfold unrL; rw [hub,decide_eq_true h]; rfl)
  have HLN:=hid (show ¬ (trOf L).us≤120→unrL L=[] from fun h=>by unfold unrL; rw [hub,decide_eq_false h]; rfl)
  obtain ⟨U,hU⟩:∃ U,(trOf L).us=U:=⟨_,rfl⟩
  rw [hU] at HZ HUB hsm HLL HLN
  clear hp hL hok hdp hl hub hU hz
  have hU0:decide ((U:Int) < 0)=false:=by simp
  by_cases h120:U≤120
  ·have h120':¬ (120:Int) < (U:Int):=by omega
   have HE:=hid (HLL.out h120)
   have HQ:=hid (show unrB L=true by rw [HUB.out,decide_eq_true h120])
   clear h120 HLL HLN HUB
   go_enter Tryz.func41,Tryz.ntmps41
   have b_0:=(Below.refl w.heap.size w)
   have s_0:=b_0.size
   have l_0:=hc
   clear hc
   go_wp2_with fail
   refine calls_forget0 (W:=w) ?_ ?_
   (focus (exact belBy))
   intro X1 hX1
   have sX1:=hX1.size
   refine (HZ.out _ ((cells_below l_0 hX1 (by omega)).more (by omega))).mono ?_
   rintro e w1 ⟨rfl,hb1⟩
   have s1:=hb1.size
   have hT1:=hX1.trans (hb1.mono sX1)
   have b_1:=b_0.trans (hT1.mono (by omega))
   have l_1:=cells_below l_0 hT1 (by omega)
   clear l_0 b_0 hX1 hT1 hb1
   have HB:=hid b_1
   have HL2:=hid l_1
   clear b_1 l_1
   go_wp2_with fail
   refine (HR.out _ (HL2.out.more (by have:=HB.out.size; omega))).mono ?_
   rintro e w' ⟨g,k,rfl,hg,ho,hb⟩
   have HO:=hid (And.intro ho (HB.out.trans (hb.mono HB.out.size)))
   have hge:w.heap.size≤g:=Nat.le_trans HB.out.size hg
   clear ho hb
   go_wp2
   go_returns
   refine ⟨g,k,by rw [HQ.out,HE.out]; rfl,hge,?_,HO.out.2⟩
   rw [HE.out]
   exact HO.out.1
  ·have h120':(120:Int) < (U:Int):=by omega
   have HE:=hid (HLN.out h120)
   have HQ:=hid (show unrB L=false by rw [HUB.out,decide_eq_false h120])
   clear h120 HLL HLN HUB
   go_enter Tryz.func41,Tryz.ntmps41
   have b_0:=(Below.refl w.heap.size w)
   have s_0:=b_0.size
   have l_0:=hc
   clear hc
   go_wp2_with fail
   refine calls_forget0 (W:=w) ?_ ?_
   (focus (exact belBy))
   intro X1 hX1
   have sX1:=hX1.size
   refine (HZ.out _ ((cells_below l_0 hX1 (by omega)).more (by omega))).mono ?_
   rintro e w1 ⟨rfl,hb1⟩
   have s1:=hb1.size
   have hT1:=hX1.trans (hb1.mono sX1)
   have b_1:=b_0.trans (hT1.mono (by omega))
   have l_1:=cells_below l_0 hT1 (by omega)
   clear l_0 b_0 hX1 hT1 hb1
   have HB:=hid b_1
   have z1:=b_1.size
   clear b_1 l_1
   go_wp2
   go_returns
   exact ⟨w1.heap.size,0,by rw [HQ.out,HE.out]; rfl,z1,by rw [HE.out]; exact Row.new #[] (Nat.zero_le _) rfl rfl,HB.out.alloc z1 _⟩
end Go.Proofs.YtihbaieiempjeaaGreat
