/- Lemmas of the proof: Prg, Gates, Circ, Bld, Gate, Full, Bld2. -/
import Derived.Test.YtihbaieiempjeaaGreatD0
import Derived.Test.YtihbaieiempjeaaGreatD2
import Derived.Deep.DeepCutAuto
import Derived.Test.YtihbaieiempjeaaGreatD4
import Derived.Maps.AppendAt
import Derived.StillTailTactics
namespace Go.Proofs.YtihbaieiempjeaaGreat
open Go.RowKit
theorem st_cells {w wr:World} {B:Nat} {A:Option Addr} {L:List St} (h:Cells w B A (ints (flatS L))) (hb:Below B w wr) {j:Nat} {o d a e g n:Int} (hj:L[j]? = some ⟨o,d,a,e,g,n⟩) :
  ∃ b off,A=some ⟨b,off,none⟩∧b < B∧wr.cell? ⟨b,off + j * 6,none⟩=some (.int .i64 o)∧wr.cell? ⟨b,off + j * 6 + 1,none⟩=some (.int .i64 d)∧wr.cell? ⟨b,off + j * 6 + 2,none⟩=some (.int .i64 a) ∧
   wr.cell? ⟨b,off + j * 6 + 3,none⟩=some (.int .i64 e)∧wr.cell? ⟨b,off + j * 6 + 4,none⟩=some (.int .i64 g)∧wr.cell? ⟨b,off + j * 6 + 5,none⟩=some (.int .i64 n):=by
 have hl:=(List.getElem?_eq_some_iff.1 hj).1
 obtain ⟨b,off,rfl,hB,hc⟩:=h (by rw [ints_length,flatS_length]; omega)
 have g:=fun (t:Nat) (x:Int) (hx:(sixS ⟨o,d,a,e,g,n⟩)[t]? = some x)=>(hb.cell (p:=⟨b,off + (j * 6 + t),none⟩) hB).trans (hc (j * 6 + t) _ (ints_get (flatS_at hj t x hx)))
 exact ⟨b,off,rfl,hB,g 0 _ rfl,g 1 _ rfl,g 2 _ rfl,g 3 _ rfl,g 4 _ rfl,g 5 _ rfl⟩
theorem drop_st {α:Type} {L:List α} {j:Nat} {s:α} (h:L[j]? = some s):L.drop j=s :: L.drop (j + 1):=by
 obtain ⟨hl,e⟩:=List.getElem?_eq_some_iff.1 h
 rw [List.drop_eq_getElem_cons hl,e]
theorem scan_at {k:Int} {L:List St} {j:Nat} {s:St} (h:L[j]? = some s):scanP k (L.drop j)=(stmtB s && (inB (dep s k) 0 3 && scanP (dep s k) (L.drop (j + 1)))):=by
 rw [drop_st h,scanP]
theorem prog_no {L:List St} (h:scanP 0 L=false):progB L=false:=by unfold progB; rw [h,Bool.and_false]
theorem dep_is (o d a e g n k:Int):(o=12∧dep ⟨o,d,a,e,g,n⟩ k=k + 1)∨(o≠12∧o=13∧dep ⟨o,d,a,e,g,n⟩ k=k - 1)∨(o≠12∧o≠13∧dep ⟨o,d,a,e,g,n⟩ k=k):=by
 unfold dep
 by_cases h:o=12
 ·exact .inl ⟨h,if_pos h⟩
 ·by_cases h2:o=13
  ·exact .inr (.inl ⟨h,h2,by rw [if_neg h,if_pos h2]⟩)
  ·exact .inr (.inr ⟨h,h2,by rw [if_neg h,if_neg h2]⟩)
set_option linter.unusedVariables false in
set_option maxRecDepth 100000 in
set_option maxHeartbeats 3200000 in
theorem iProgOk (A:Option Addr) (c:Nat) (L:List St) (w:World) (hc:Cells w w.heap.size A (ints (flatS L))) (hn:L.length≤1000000000) :
  Calls Tryz.prog 153 #[.slice A L.length c] w fun e w'=>e=.returned (.bool (progB L))∧Below w.heap.size w w':=by
 by_cases h40:40 < L.length
 ·have h40':(40:Int) < (L.length:Int):=by omega
  have HP:=hid (show progB L=false by unfold progB; rw [decide_eq_false (by omega)]; rfl)
  go_enter Tryz.func153,Tryz.ntmps153
  go_wp2
  go_ret
  exact ⟨by rw [HP.out]; rfl,Below.refl _ _⟩
 have h40':¬ (40:Int) < (L.length:Int):=by omega
 have HC:=hid hc
 clear hc
 go_enter Tryz.func153,Tryz.ntmps153
 go_wp2
 go_loopw [3,5,11] (fun dd _ i wr=>∃ (j:Nat) (k:Int),j≤L.length∧i=.int .i64 j∧dd=.int .i64 k∧(0≤k∧k≤3)∧scanP 0 L=scanP k (L.drop j)∧Below w.heap.size w wr) (fun _ _ i _=>L.length - (intOf i).toNat)
 case atStart=>exact ⟨0,0,Nat.zero_le _,rfl,rfl,by omega,rfl,Below.refl _ _⟩
 case round =>
  obtain ⟨j,k,hj,rfl,rfl,hk,hsc,hb⟩:=hrel
  have zb:=hb.size
  by_cases hlt:j < L.length
  ·obtain ⟨⟨o,d,a,e,g,n⟩,hx⟩:∃ s,L[j]? = some s:=⟨_,List.getElem?_eq_getElem hlt⟩
   obtain ⟨b,off,rfl,hB,d0,d1,d2,d3,d4,d5⟩:=st_cells HC.out hb hx
   have hs2:=scan_at (k:=k) hx
   have hlt':(j:Int) < (L.length:Int):=by omega
   have HS:=hid (fun w=>iStmtOk o d a e g n w)
   obtain ⟨v,hv⟩:∃ v,stmtB ⟨o,d,a,e,g,n⟩=v:=⟨_,rfl⟩
   rw [hv] at HS hs2
   have HSC:=hid (hsc.trans hs2)
   clear hx hsc hs2 hv
   have b_30:=hb
   have s_30:=b_30.size
   go_upto_region 7 with fail
   refine wp_forget1 (w0:=wr) (B:=wr.heap.size) (b0:=wr.heap.size) (t0:=73) (c0:=#[.int .i64 o,.int .i64 d,.int .i64 a,.int .i64 e,.int .i64 g,.int .i64 n]) ?_ ?_ ?_
   (focus exact blkcBy)
   (focus (exact belBy))
   intro w31 x_31 hX31
   have sX31:=hX31.size
   have x_lt:=x_31.lt
   have b_31:=b_30.trans (hX31.mono (by omega))
   clear b_30 hX31
   have cell_x:=x_31.cell
   have froz_x:=x_31.frozen
   have lt_x:=x_31.lt
   go_wp2_with fail
   refine calls_forget0 (W:=w31) ?_ ?_
   (focus (exact belBy))
   intro X32 hX32
   have sX32:=hX32.size
   refine (HS.out _).mono ?_
   rintro e w32 ⟨rfl,hb32⟩
   have s32:=hb32.size
   have hT32:=hX32.trans (hb32.mono sX32)
   have b_32:=b_31.trans (hT32.mono (by omega))
   have x_32:=Blk.past hT32 x_31
   clear x_31 b_31 cell_x froz_x lt_x hX32 hT32 hb32
   have cell_x:=x_32.cell
   have froz_x:=x_32.frozen
   have lt_x:=x_32.lt
   have HB:=hid b_32
   clear b_32 d0 d1 d2 d3 d4 d5 x_32
   cases v
   ·have HP:=hid (prog_no (HSC.out.trans (Bool.false_and _)))
    go_wp2
    go_ret
    exact ⟨by rw [HP.out]; rfl,HB.out⟩
   ·obtain ⟨q,hq⟩:∃ q,dep ⟨o,d,a,e,g,n⟩ k=q:=⟨_,rfl⟩
    have hdep:=dep_is o d a e g n k
    have HSQ:=HSC
    rw [Bool.true_and,hq] at HSQ
    rw [hq] at hdep
    have HIN:=hid (fun w=>iWithin q 0 3 w)
    obtain ⟨v,hv⟩:∃ v,inB q 0 3=v:=⟨_,rfl⟩
    rw [hv] at HIN HSQ
    have HV:=hid hv
    clear hv hq HSC
    have hw1:IntKind.i64.wrap (k + 1)=k + 1:=IntWalk.i64_in _ (by omega)
    have hw2:IntKind.i64.wrap (k - 1)=k - 1:=IntWalk.i64_in _ (by omega)
    rcases hdep with ⟨rfl,hq⟩ | ⟨h12,rfl,hq⟩ | ⟨h12,h13,hq⟩
    all_goals
     try have e1:(o == 12)=false:=by simpa using h12
     try have e2:(o == 13)=false:=by simpa using h13
     rw [hq] at HIN
     have HQ:=hid hq
     clear hq
     cases v
     ·have HP:=hid (prog_no (HSQ.out.trans (Bool.false_and _)))
      go_wp2_with (go_at_call 56; refine (HIN.out _).mono ?_; rintro e w' ⟨rfl,rfl⟩)
      go_ret
      exact ⟨by rw [HP.out]; rfl,HB.out⟩
     ·go_wp2_with (go_at_call 56; refine (HIN.out _).mono ?_; rintro e w' ⟨rfl,rfl⟩)
      go_roundw
      case rel=>exact ⟨j + 1,q,by omega,by go_num,by rw [HQ.out],inB_iff.1 HV.out,HSQ.out.trans (Bool.true_and _),HB.out⟩
      case measure=>simp [intOf]; omega
  ·obtain rfl:j=L.length:=by omega
   rw [List.drop_length] at hsc
   have HP:=hid (show progB L=(k == 0) by unfold progB; rw [hsc,decide_eq_true (by omega)]; rfl)
   have HB:=hid hb
   clear hsc hb
   cases h0:(k == 0)
   all_goals
    go_wp2
    go_ret
    exact ⟨by rw [HP.out,h0]; rfl,HB.out⟩
set_option linter.unusedVariables false in
set_option maxRecDepth 100000 in
set_option maxHeartbeats 3200000 in
theorem sProgOk (A:Option Addr) (c:Nat) (L:List St) (w:World) (hc:Cells w w.heap.size A (ints (flatS L))) (hn:L.length≤1000000000) :
  Calls Tryz.prog 149 #[.slice A L.length c] w fun e w'=>e=.returned (.bool (progB L))∧Below w.heap.size w w':=by
 have HC:=hid hc
 clear hc
 go_enter Tryz.func149,Tryz.ntmps149
 go_wp2
 go_loopw [3,4] (fun dd i wr=>∃ (j:Nat) (k:Int),j≤L.length∧i=.int .i64 j∧dd=.int .i64 k∧(0≤k∧k≤3)∧scanP 0 L=scanP k (L.drop j)∧Below w.heap.size w wr) (fun _ i _=>L.length - (intOf i).toNat)
 case atStart=>exact ⟨0,0,Nat.zero_le _,rfl,rfl,by omega,rfl,Below.refl _ _⟩
 case round =>
  obtain ⟨j,k,hj,rfl,rfl,hk,hsc,hb⟩:=hrel
  have zb:=hb.size
  by_cases hlt:j < L.length
  ·obtain ⟨⟨o,d,a,e,g,n⟩,hx⟩:∃ s,L[j]? = some s:=⟨_,List.getElem?_eq_getElem hlt⟩
   obtain ⟨b,off,rfl,hB,d0,d1,d2,d3,d4,d5⟩:=st_cells HC.out hb hx
   have hs2:=scan_at (k:=k) hx
   have hlt':(j:Int) < (L.length:Int):=by omega
   have hbz:b < wr.heap.size:=by omega
   have HS:=hid (fun w=>sStmtOk o d a e g n w)
   obtain ⟨v,hv⟩:∃ v,stmtB ⟨o,d,a,e,g,n⟩=v:=⟨_,rfl⟩
   rw [hv] at HS hs2
   have HSC:=hid (hsc.trans hs2)
   clear hx hsc hs2 hv
   have b_30:=hb
   have s_30:=b_30.size
   have q0_30:=d0
   clear d0
   have lt_q0:b < wr.heap.size:=by omega
   go_wp2_with fail
   refine calls_forget0 (W:=wr) ?_ ?_
   (focus (exact belBy))
   intro X31 hX31
   have sX31:=hX31.size
   refine (HS.out _).mono ?_
   rintro e w31 ⟨rfl,hb31⟩
   have s31:=hb31.size
   have hT31:=hX31.trans (hb31.mono sX31)
   have b_31:=b_30.trans (hT31.mono (by omega))
   have q0_31:=cell_kept q0_30 hT31 (by dsimp only; omega)
   clear q0_30 b_30 lt_q0 hX31 hT31 hb31
   have lt_q0:b < w31.heap.size:=(by omega)
   have HB:=hid b_31
   clear b_31 d1 d2 d3 d4 d5
   cases v
   ·have HP:=hid (prog_no (HSC.out.trans (Bool.false_and _)))
    go_wp2
    go_ret
    exact ⟨by rw [HP.out]; rfl,HB.out⟩
   ·obtain ⟨q,hq⟩:∃ q,dep ⟨o,d,a,e,g,n⟩ k=q:=⟨_,rfl⟩
    have hdep:=dep_is o d a e g n k
    have HSQ:=HSC
    rw [Bool.true_and,hq] at HSQ
    rw [hq] at hdep
    have HIN:=hid (fun w=>sWithin q 0 3 w)
    obtain ⟨v,hv⟩:∃ v,inB q 0 3=v:=⟨_,rfl⟩
    rw [hv] at HIN HSQ
    have HV:=hid hv
    clear hv hq HSC
    have hw1:IntKind.i64.wrap (k + 1)=k + 1:=IntWalk.i64_in _ (by omega)
    have hw2:IntKind.i64.wrap (k - 1)=k - 1:=IntWalk.i64_in _ (by omega)
    rcases hdep with ⟨rfl,hq⟩ | ⟨h12,rfl,hq⟩ | ⟨h12,h13,hq⟩
    all_goals
     try have e1:(o == 12)=false:=by simpa using h12
     try have e2:(o == 13)=false:=by simpa using h13
     rw [hq] at HIN
     have HQ:=hid hq
     clear hq
     cases v
     ·have HP:=hid (prog_no (HSQ.out.trans (Bool.false_and _)))
      go_wp2_with (go_at_call 123; refine (HIN.out _).mono ?_; rintro e w' ⟨rfl,rfl⟩)
      go_ret
      exact ⟨by rw [HP.out]; rfl,HB.out⟩
     ·go_wp2_with (go_at_call 123; refine (HIN.out _).mono ?_; rintro e w' ⟨rfl,rfl⟩)
      go_roundw
      case rel=>exact ⟨j + 1,q,by omega,by go_num,by rw [HQ.out],inB_iff.1 HV.out,HSQ.out.trans (Bool.true_and _),HB.out⟩
      case measure=>simp [intOf]; omega
  ·obtain rfl:j=L.length:=by omega
   rw [List.drop_length] at hsc
   have HP:=hid (show progB L=(k == 0 && decide (L.length≤40)) by unfold progB; rw [hsc,Bool.and_comm]; rfl)
   have HB:=hid hb
   clear hsc hb
   cases h0:(k == 0)
   ·go_wp2
    go_ret
    exact ⟨by rw [HP.out,h0]; rfl,HB.out⟩
   ·by_cases h40:L.length≤40
    ·have h40':(L.length:Int)≤40:=by omega
     go_wp2
     go_ret
     exact ⟨by rw [HP.out,h0,decide_eq_true h40]; rfl,HB.out⟩
    ·have h40':¬ (L.length:Int)≤40:=by omega
     go_wp2
     go_ret
     exact ⟨by rw [HP.out,h0,decide_eq_false h40]; rfl,HB.out⟩
theorem mt_at {k:Int} {L:List St} {j:Nat} {s:St} (h:L[j]? = some s):mt k (L.drop j)=if s.o=12 then 1 + mt (k + 1) (L.drop (j + 1)) else if s.o=13 then (if k - 1=0 then 0 else 1 + mt (k - 1) (L.drop (j + 1))) else 1 + mt k (L.drop (j + 1)):=by
 rw [drop_st h,mt]
set_option linter.unusedVariables false in
set_option maxRecDepth 100000 in
set_option maxHeartbeats 3200000 in
theorem iMatching (A:Option Addr) (c:Nat) (L:List St) (i:Nat) (w:World) (hc:Cells w w.heap.size A (ints (flatS L))) (hn:L.length≤1000000) (hi:i≤L.length) :
  Calls Tryz.prog 185 #[.slice A L.length c,.int .i64 i] w fun e w'=>e=.returned (.int .i64 ((i + mt 0 (L.drop i):Nat):Int))∧w=w':=by
 have HC:=hid hc
 clear hc
 go_enter Tryz.func185,Tryz.ntmps185
 go_wp2
 go_loop [5,6] (fun dd x=>∃ (j:Nat) (k:Int),j≤L.length∧x=.int .i64 j∧dd=.int .i64 k∧(-(j:Int)≤k∧k≤j)∧i + mt 0 (L.drop i)=j + mt k (L.drop j)) (fun _ x=>L.length - (intOf x).toNat)
 case atStart=>exact ⟨i,0,hi,rfl,rfl,by omega,rfl⟩
 case round =>
  obtain ⟨j,k,hj,rfl,rfl,hk,hm⟩:=hrel
  by_cases hlt:j < L.length
  ·obtain ⟨⟨o,d,a,e,g,n⟩,hx⟩:∃ s,L[j]? = some s:=⟨_,List.getElem?_eq_getElem hlt⟩
   obtain ⟨b,off,rfl,hB,d0,_,_,_,_,_⟩:=st_cells HC.out (Below.refl _ _) hx
   have hm2:=mt_at (k:=k) hx
   dsimp only at hm2
   have hlt':(j:Int) < (L.length:Int):=by omega
   have hw1:IntKind.i64.wrap (k + 1)=k + 1:=IntWalk.i64_in _ (by omega)
   have hw2:IntKind.i64.wrap (k - 1)=k - 1:=IntWalk.i64_in _ (by omega)
   clear hx
   by_cases h12:o=12
   ·subst h12
    rw [if_pos rfl] at hm2
    have HM:=hid (show i + mt 0 (L.drop i)=(j + 1) + mt (k + 1) (L.drop (j + 1)) by omega)
    clear hm hm2
    go_wp2
    go_round
    case rel=>exact ⟨j + 1,k + 1,by omega,by go_num,rfl,by omega,HM.out⟩
    case measure=>simp [intOf]; omega
   ·have e1:(o == 12)=false:=by simpa using h12
    rw [if_neg h12] at hm2
    by_cases h13:o=13
    ·subst h13
     rw [if_pos rfl] at hm2
     cases h1:(k - 1 == 0)
     ·rw [if_neg (by simpa using h1)] at hm2
      have HM:=hid (show i + mt 0 (L.drop i)=(j + 1) + mt (k - 1) (L.drop (j + 1)) by omega)
      clear hm hm2
      go_wp2
      go_round
      case rel=>exact ⟨j + 1,k - 1,by omega,by go_num,rfl,by omega,HM.out⟩
      case measure=>simp [intOf]; omega
     ·rw [if_pos (by simpa using h1)] at hm2
      have HM:=hid (show i + mt 0 (L.drop i)=j by omega)
      clear hm hm2
      go_wp2
      go_ret
      exact ⟨(congrArg (fun q:Nat=>Ending.returned (.int .i64 (q:Int))) HM.out).symm,rfl⟩
    ·have e2:(o == 13)=false:=by simpa using h13
     rw [if_neg h13] at hm2
     have HM:=hid (show i + mt 0 (L.drop i)=(j + 1) + mt k (L.drop (j + 1)) by omega)
     clear hm hm2
     go_wp2
     go_round
     case rel=>exact ⟨j + 1,k,by omega,by go_num,rfl,by omega,HM.out⟩
     case measure=>simp [intOf]; omega
  ·obtain rfl:j=L.length:=by omega
   rw [List.drop_length,mt] at hm
   have HM:=hid hm
   clear hm
   go_wp2
   go_ret
   exact ⟨(congrArg (fun q:Nat=>Ending.returned (.int .i64 (q:Int))) HM.out).symm,rfl⟩
open Go.RowKit
theorem gateB_1 (a b n:Int):gateB ⟨1,a,b⟩ n=(inB a 0 79 && b == 0):=rfl
theorem gateB_2 (a b n:Int):gateB ⟨2,a,b⟩ n=(inB a 0 1 && b == 0):=rfl
theorem gateB_3 (a b n:Int):gateB ⟨3,a,b⟩ n=(inB a 0 (n - 1) && inB b 0 (n - 1)):=rfl
theorem gateB_4 (a b n:Int):gateB ⟨4,a,b⟩ n=(inB a 0 (n - 1) && inB b 0 (n - 1)):=rfl
theorem gateB_5 (a b n:Int):gateB ⟨5,a,b⟩ n=(inB a 0 (n - 1) && b == 0):=rfl
theorem gateB_x {k:Int} (a b n:Int) (h1:k≠1) (h2:k≠2) (h3:k≠3) (h4:k≠4) (h5:k≠5):gateB ⟨k,a,b⟩ n=false:=by
 unfold gateB
 dsimp only
 rw [if_neg h1,if_neg h2,if_neg (by omega),if_neg h5]
theorem wire_ways (a:Int) (n:Nat):(0≤a∧a < n∧inB a 0 ((n:Int) - 1)=true)∨(0≤a∧¬ a < n∧inB a 0 ((n:Int) - 1)=false)∨(¬ 0≤a∧True∧inB a 0 ((n:Int) - 1)=false):=by
 by_cases h0:0≤a
 ·by_cases h1:a < n
  ·exact .inl ⟨h0,h1,inB_iff.2 (by omega)⟩
  ·exact .inr (.inl ⟨h0,h1,inB_no.2 (by omega)⟩)
 ·exact .inr (.inr ⟨h0,trivial,inB_no.2 (by omega)⟩)
set_option linter.unusedVariables false in
set_option maxRecDepth 100000 in
set_option maxHeartbeats 6400000 in
theorem iGateOk (k a b:Int) (n:Nat) (w:World) :
  Calls Tryz.prog 171 #[.agg #[.int .i64 k,.int .i64 a,.int .i64 b],.int .i64 (n:Int)] w fun e w'=>e=.returned (.bool (gateB ⟨k,a,b⟩ n))∧Below w.heap.size w w':=by
 by_cases h1:k=1
 ·subst h1
  rcases wire_ways a n with ⟨a0,a1,a2⟩ | ⟨a0,a1,a2⟩ | ⟨a0,a1,a2⟩
  all_goals
   rcases wire_ways b n with ⟨b0,b1,b2⟩ | ⟨b0,b1,b2⟩ | ⟨b0,b1,b2⟩
   all_goals
    have HA:=hid a2
    have HB:=hid b2
    clear a2 b2
    cases h1:inB a 0 79; rotate_left
    cases h2:(b == 0)
    all_goals
     go_enter Tryz.func171,Tryz.ntmps171
     go_wp2_with (go_at_call 56; refine (iWithin _ _ _ _).mono ?_; rintro e w' ⟨rfl,rfl⟩)
     go_ret
     refine ⟨ret_bool (by rw [gateB_1]; simp [*]),?_⟩
     exact belBy
 by_cases h2:k=2
 ·subst h2
  rcases wire_ways a n with ⟨a0,a1,a2⟩ | ⟨a0,a1,a2⟩ | ⟨a0,a1,a2⟩
  all_goals
   rcases wire_ways b n with ⟨b0,b1,b2⟩ | ⟨b0,b1,b2⟩ | ⟨b0,b1,b2⟩
   all_goals
    have HA:=hid a2
    have HB:=hid b2
    clear a2 b2
    cases h1:inB a 0 1; rotate_left
    cases h2:(b == 0)
    all_goals
     go_enter Tryz.func171,Tryz.ntmps171
     go_wp2_with (go_at_call 56; refine (iWithin _ _ _ _).mono ?_; rintro e w' ⟨rfl,rfl⟩)
     go_ret
     refine ⟨ret_bool (by rw [gateB_2]; simp [*]),?_⟩
     exact belBy
 by_cases h3:k=3
 ·subst h3
  rcases wire_ways a n with ⟨a0,a1,a2⟩ | ⟨a0,a1,a2⟩ | ⟨a0,a1,a2⟩
  all_goals
   rcases wire_ways b n with ⟨b0,b1,b2⟩ | ⟨b0,b1,b2⟩ | ⟨b0,b1,b2⟩
   all_goals
    have HA:=hid a2
    have HB:=hid b2
    clear a2 b2
    go_enter Tryz.func171,Tryz.ntmps171
    go_wp2
    go_ret
    refine ⟨ret_bool (by rw [gateB_3,HA.out,HB.out]; rfl),?_⟩
    exact belBy
 by_cases h4:k=4
 ·subst h4
  rcases wire_ways a n with ⟨a0,a1,a2⟩ | ⟨a0,a1,a2⟩ | ⟨a0,a1,a2⟩
  all_goals
   rcases wire_ways b n with ⟨b0,b1,b2⟩ | ⟨b0,b1,b2⟩ | ⟨b0,b1,b2⟩
   all_goals
    have HA:=hid a2
    have HB:=hid b2
    clear a2 b2
    go_enter Tryz.func171,Tryz.ntmps171
    go_wp2
    go_ret
    refine ⟨ret_bool (by rw [gateB_4,HA.out,HB.out]; rfl),?_⟩
    exact belBy
 by_cases h5:k=5
 ·subst h5
  rcases wire_ways a n with ⟨a0,a1,a2⟩ | ⟨a0,a1,a2⟩ | ⟨a0,a1,a2⟩
  all_goals
   rcases wire_ways b n with ⟨b0,b1,b2⟩ | ⟨b0,b1,b2⟩ | ⟨b0,b1,b2⟩
   all_goals
    have HA:=hid a2
    clear a2 b2
    cases h2:(b == 0)
    all_goals
     have HB:=hid h2
     go_enter Tryz.func171,Tryz.ntmps171
     go_wp2
     go_ret
     refine ⟨ret_bool (by rw [gateB_5,HA.out,HB.out]; rfl),?_⟩
     exact belBy
 have HX:=hid (gateB_x a b n h1 h2 h3 h4 h5)
 have e1:(k == 1)=false:=by simpa using h1
 have e2:(k == 2)=false:=by simpa using h2
 have e3:(k == 3)=false:=by simpa using h3
 have e4:(k == 4)=false:=by simpa using h4
 have e5:(k == 5)=false:=by simpa using h5
 clear h1 h2 h3 h4 h5
 rcases wire_ways a n with ⟨a0,a1,a2⟩ | ⟨a0,a1,a2⟩ | ⟨a0,a1,a2⟩
 all_goals
  rcases wire_ways b n with ⟨b0,b1,b2⟩ | ⟨b0,b1,b2⟩ | ⟨b0,b1,b2⟩
  all_goals
   clear a2 b2
   go_enter Tryz.func171,Tryz.ntmps171
   go_wp2
   go_ret
   refine ⟨ret_bool (by rw [HX.out]),?_⟩
   exact belBy
set_option linter.unusedVariables false in
set_option maxRecDepth 100000 in
set_option maxHeartbeats 6400000 in
theorem sGateOk (k a b:Int) (n:Nat) (w:World) :
  Calls Tryz.prog 122 #[.agg #[.int .i64 k,.int .i64 a,.int .i64 b],.int .i64 (n:Int)] w fun e w'=>e=.returned (.bool (gateB ⟨k,a,b⟩ n))∧Below w.heap.size w w':=by
 by_cases h1:k=1
 ·subst h1
  rcases wire_ways a n with ⟨a0,a1,a2⟩ | ⟨a0,a1,a2⟩ | ⟨a0,a1,a2⟩
  all_goals
   rcases wire_ways b n with ⟨b0,b1,b2⟩ | ⟨b0,b1,b2⟩ | ⟨b0,b1,b2⟩
   all_goals
    have HA:=hid a2
    have HB:=hid b2
    clear a2 b2
    cases h1:inB a 0 79; rotate_left
    cases h2:(b == 0)
    all_goals
     go_enter Tryz.func122,Tryz.ntmps122
     go_wp2_with (go_at_call 123; refine (sWithin _ _ _ _).mono ?_; rintro e w' ⟨rfl,rfl⟩)
     go_ret
     refine ⟨ret_bool (by rw [gateB_1]; simp [*]),?_⟩
     exact belBy
 by_cases h2:k=2
 ·subst h2
  rcases wire_ways a n with ⟨a0,a1,a2⟩ | ⟨a0,a1,a2⟩ | ⟨a0,a1,a2⟩
  all_goals
   rcases wire_ways b n with ⟨b0,b1,b2⟩ | ⟨b0,b1,b2⟩ | ⟨b0,b1,b2⟩
   all_goals
    have HA:=hid a2
    have HB:=hid b2
    clear a2 b2
    cases h1:inB a 0 1; rotate_left
    cases h2:(b == 0)
    all_goals
     go_enter Tryz.func122,Tryz.ntmps122
     go_wp2_with (go_at_call 123; refine (sWithin _ _ _ _).mono ?_; rintro e w' ⟨rfl,rfl⟩)
     go_ret
     refine ⟨ret_bool (by rw [gateB_2]; simp [*]),?_⟩
     exact belBy
 by_cases h3:k=3
 ·subst h3
  rcases wire_ways a n with ⟨a0,a1,a2⟩ | ⟨a0,a1,a2⟩ | ⟨a0,a1,a2⟩
  all_goals
   rcases wire_ways b n with ⟨b0,b1,b2⟩ | ⟨b0,b1,b2⟩ | ⟨b0,b1,b2⟩
   all_goals
    have HA:=hid a2
    have HB:=hid b2
    clear a2 b2
    go_enter Tryz.func122,Tryz.ntmps122
    go_wp2
    go_ret
    refine ⟨ret_bool (by rw [gateB_3,HA.out,HB.out]; rfl),?_⟩
    exact belBy
 by_cases h4:k=4
 ·subst h4
  rcases wire_ways a n with ⟨a0,a1,a2⟩ | ⟨a0,a1,a2⟩ | ⟨a0,a1,a2⟩
  all_goals
   rcases wire_ways b n with ⟨b0,b1,b2⟩ | ⟨b0,b1,b2⟩ | ⟨b0,b1,b2⟩
   all_goals
    have HA:=hid a2
    have HB:=hid b2
    clear a2 b2
    go_enter Tryz.func122,Tryz.ntmps122
    go_wp2
    go_ret
    refine ⟨ret_bool (by rw [gateB_4,HA.out,HB.out]; rfl),?_⟩
    exact belBy
 by_cases h5:k=5
 ·subst h5
  rcases wire_ways a n with ⟨a0,a1,a2⟩ | ⟨a0,a1,a2⟩ | ⟨a0,a1,a2⟩
  all_goals
   rcases wire_ways b n with ⟨b0,b1,b2⟩ | ⟨b0,b1,b2⟩ | ⟨b0,b1,b2⟩
   all_goals
    have HA:=hid a2
    clear a2 b2
    cases h2:(b == 0)
    all_goals
     have HB:=hid h2
     go_enter Tryz.func122,Tryz.ntmps122
     go_wp2
     go_ret
     refine ⟨ret_bool (by rw [gateB_5,HA.out,HB.out]; rfl),?_⟩
     exact belBy
 have HX:=hid (gateB_x a b n h1 h2 h3 h4 h5)
 have e1:(k == 1)=false:=by simpa using h1
 have e2:(k == 2)=false:=by simpa using h2
 have e3:(k == 3)=false:=by simpa using h3
 have e4:(k == 4)=false:=by simpa using h4
 have e5:(k == 5)=false:=by simpa using h5
 clear h1 h2 h3 h4 h5
 rcases wire_ways a n with ⟨a0,a1,a2⟩ | ⟨a0,a1,a2⟩ | ⟨a0,a1,a2⟩
 all_goals
  rcases wire_ways b n with ⟨b0,b1,b2⟩ | ⟨b0,b1,b2⟩ | ⟨b0,b1,b2⟩
  all_goals
   clear a2 b2
   go_enter Tryz.func122,Tryz.ntmps122
   go_wp2
   go_ret
   refine ⟨ret_bool (by rw [HX.out]),?_⟩
   exact belBy
open Go.RowKit
theorem gt_cells {w wr:World} {B:Nat} {A:Option Addr} {L:List Gt} (h:Cells w B A (ints (flatG L))) (hb:Below B w wr) {j:Nat} {k x y:Int} (hj:L[j]? = some ⟨k,x,y⟩) :
  ∃ b off,A=some ⟨b,off,none⟩∧b < B∧wr.cell? ⟨b,off + j * 3,none⟩=some (.int .i64 k)∧wr.cell? ⟨b,off + j * 3 + 1,none⟩=some (.int .i64 x)∧wr.cell? ⟨b,off + j * 3 + 2,none⟩=some (.int .i64 y):=by
 have hl:=(List.getElem?_eq_some_iff.1 hj).1
 obtain ⟨b,off,rfl,hB,hc⟩:=h (by rw [ints_length,flatG_length]; omega)
 have g:=fun (t:Nat) (v:Int) (hx:(threeG ⟨k,x,y⟩)[t]? = some v)=>(hb.cell (p:=⟨b,off + (j * 3 + t),none⟩) hB).trans (hc (j * 3 + t) _ (ints_get (flatG_at hj t v hx)))
 exact ⟨b,off,rfl,hB,g 0 _ rfl,g 1 _ rfl,g 2 _ rfl⟩
theorem int_cells {w wr:World} {B:Nat} {A:Option Addr} {L:List Int} (h:Cells w B A (ints L)) (hb:Below B w wr) {j:Nat} {x:Int} (hj:L[j]? = some x) :
  ∃ b off,A=some ⟨b,off,none⟩∧b < B∧wr.cell? ⟨b,off + j,none⟩=some (.int .i64 x):=by
 have hl:=(List.getElem?_eq_some_iff.1 hj).1
 obtain ⟨b,off,rfl,hB,hc⟩:=h (by rw [ints_length]; omega)
 exact ⟨b,off,rfl,hB,(hb.cell (p:=⟨b,off + j,none⟩) hB).trans (hc j _ (ints_get hj))⟩
theorem gates_at {L:List Gt} {j:Nat} {g:Gt} (h:L[j]? = some g):gatesB j (L.drop j)=(gateB g j && gatesB (j + 1) (L.drop (j + 1))):=by
 rw [drop_st h,gatesB]
theorem outs_at {n:Nat} {L:List Int} {j:Nat} {x:Int} (h:L[j]? = some x):outsB n (L.drop j)=(wireB n x && outsB n (L.drop (j + 1))):=by
 rw [drop_st h]
 rfl
theorem circ_g {gs:List Gt} {os:List Int} (h:gatesB 0 gs=false):circB gs os=false:=by unfold circB; rw [h,Bool.false_and,Bool.and_false]
theorem circ_o {gs:List Gt} {os:List Int} (h:outsB gs.length os=false):circB gs os=false:=by unfold circB; rw [h,Bool.and_false,Bool.and_false]
set_option linter.unusedVariables false in
set_option maxRecDepth 100000 in
set_option maxHeartbeats 3200000 in
theorem iCircOk (G O:Option Addr) (cg co:Nat) (gs:List Gt) (os:List Int) (w:World) (hg:Cells w w.heap.size G (ints (flatG gs))) (ho:Cells w w.heap.size O (ints os)) (hn:gs.length≤1000000) (hm:os.length≤1000000) :
  Calls Tryz.prog 105 #[.agg #[.slice G gs.length cg,.slice O os.length co]] w fun e w'=>e=.returned (.bool (circB gs os))∧Below w.heap.size w w':=by
 by_cases h6:6000 < gs.length
 ·have h6':(6000:Int) < (gs.length:Int):=by omega
  have HP:=hid (show circB gs os=false by unfold circB; rw [decide_eq_false (by omega)]; rfl)
  clear hg ho
  go_enter Tryz.func105,Tryz.ntmps105
  go_wp2
  go_ret
  exact ⟨by rw [HP.out]; rfl,by exact belBy⟩
 have h6':¬ (6000:Int) < (gs.length:Int):=by omega
 have HG:=hid hg
 have HO:=hid ho
 clear hg ho
 go_enter Tryz.func105,Tryz.ntmps105
 have b_0:=(Below.refl w.heap.size w)
 have s_0:=b_0.size
 go_upto_region 1 with fail
 refine wp_forget1 (w0:=w) (B:=w.heap.size) (b0:=w.heap.size) (t0:=40) (c0:=#[.slice G gs.length cg,.slice O os.length co]) ?_ ?_ ?_
 (focus exact blkcBy)
 (focus (exact belBy))
 intro w1 x_1 hX1
 have sX1:=hX1.size
 have x_lt:=x_1.lt
 have b_1:=b_0.trans (hX1.mono (by omega))
 clear b_0 hX1
 have cell_x:=x_1.cell
 have froz_x:=x_1.frozen
 have lt_x:=x_1.lt
 have X1:=hid x_1
 have B1:=hid b_1
 clear x_1 b_1 froz_x lt_x
 go_wp2
 clear cell_x
 go_loopw [3,4,14] (fun _ _ i wr=>∃ (j:Nat),j≤gs.length∧i=.int .i64 j∧gatesB 0 gs=gatesB j (gs.drop j)∧Blk wr w.heap.size 40 #[.slice G gs.length cg,.slice O os.length co]∧Below w.heap.size w wr) (fun _ _ i _=>gs.length - (intOf i).toNat)
 case atStart=>exact ⟨0,Nat.zero_le _,rfl,rfl,X1.out,B1.out⟩
 case round =>
  obtain ⟨j,hj,rfl,hsc,hx,hb⟩:=hrel
  have zb:=hb.size
  by_cases hlt:j < gs.length
  ·obtain ⟨⟨k,a,e⟩,hq⟩:∃ s,gs[j]? = some s:=⟨_,List.getElem?_eq_getElem hlt⟩
   obtain ⟨b,off,rfl,hB,d0,d1,d2⟩:=gt_cells HG.out hb hq
   have hs2:=gates_at hq
   have hlt':(j:Int) < (gs.length:Int):=by omega
   have HS:=hid (fun w=>iGateOk k a e j w)
   obtain ⟨v,hv⟩:∃ v,gateB ⟨k,a,e⟩ (j:Int)=v:=⟨_,rfl⟩
   rw [hv] at HS hs2
   have HSC:=hid (hsc.trans hs2)
   clear hq hsc hs2 hv
   have b_30:=hb
   have s_30:=b_30.size
   have x_30:=hx
   clear hx
   have x_lt:=x_30.lt
   have cell_x:=x_30.cell
   have froz_x:=x_30.frozen
   have lt_x:=x_30.lt
   go_upto_region 6 with fail
   refine wp_forget1 (w0:=wr) (B:=wr.heap.size) (b0:=wr.heap.size) (t0:=96) (c0:=#[.int .i64 k,.int .i64 a,.int .i64 e]) ?_ ?_ ?_
   (focus exact blkcBy)
   (focus (exact belBy))
   intro w31 y_31 hX31
   have sX31:=hX31.size
   have y_lt:=y_31.lt
   have b_31:=b_30.trans (hX31.mono (by omega))
   have x_31:=Blk.past hX31 x_30
   clear x_30 b_30 cell_x froz_x lt_x hX31
   have cell_x:=x_31.cell
   have froz_x:=x_31.frozen
   have lt_x:=x_31.lt
   have cell_y:=y_31.cell
   have froz_y:=y_31.frozen
   have lt_y:=y_31.lt
   go_wp2_with fail
   refine calls_forget0 (W:=w31) ?_ ?_
   (focus (exact belBy))
   intro X32 hX32
   have sX32:=hX32.size
   refine (HS.out _).mono ?_
   rintro e w32 ⟨rfl,hb32⟩
   have s32:=hb32.size
   have hT32:=hX32.trans (hb32.mono sX32)
   have b_32:=b_31.trans (hT32.mono (by omega))
   have x_32:=Blk.past hT32 x_31
   have y_32:=Blk.past hT32 y_31
   clear x_31 y_31 b_31 cell_x froz_x lt_x cell_y froz_y lt_y hX32 hT32 hb32
   have cell_x:=x_32.cell
   have froz_x:=x_32.frozen
   have lt_x:=x_32.lt
   have cell_y:=y_32.cell
   have froz_y:=y_32.frozen
   have lt_y:=y_32.lt
   have HB:=hid b_32
   have HX:=hid x_32
   clear b_32 x_32 y_32 d0 d1 d2
   cases v
   ·have HP:=hid (circ_g (os:=os) (HSC.out.trans (Bool.false_and _)))
    go_wp2
    go_ret
    exact ⟨by rw [HP.out]; rfl,HB.out⟩
   ·go_wp2
    go_roundw
    case rel=>exact ⟨j + 1,by omega,by go_num,HSC.out.trans (Bool.true_and _),HX.out,HB.out⟩
    case measure=>simp [intOf]; omega
  ·obtain rfl:j=gs.length:=by omega
   rw [List.drop_length] at hsc
   have HGG:=hid hsc
   have HX:=hid hx
   have HB:=hid hb
   have cell_x:=hx.cell
   have lt_x:=hx.lt
   clear hsc hx hb X1 B1
   go_wp2
   clear cell_x lt_x
   go_loopw [6,27] (fun _ i wx=>∃ (j:Nat),j≤os.length∧i=.int .i64 j∧outsB gs.length os=outsB gs.length (os.drop j)∧Blk wx w.heap.size 40 #[.slice G gs.length cg,.slice O os.length co]∧Below w.heap.size w wx) (fun _ i _=>os.length - (intOf i).toNat)
   case atStart=>exact ⟨0,Nat.zero_le _,rfl,rfl,HX.out,HB.out⟩
   case round =>
    obtain ⟨j,hj,rfl,hsc,hx,hb⟩:=hrel
    have cell_x:=hx.cell
    have lt_x:=hx.lt
    have HX:=hid hx
    by_cases hlt:j < os.length
    ·obtain ⟨x,hq⟩:∃ s,os[j]? = some s:=⟨_,List.getElem?_eq_getElem hlt⟩
     obtain ⟨b,off,rfl,hB,d0⟩:=int_cells HO.out hb hq
     have hs2:=outs_at (n:=gs.length) hq
     have hlt':(j:Int) < (os.length:Int):=by omega
     have HS:=hid (fun w=>iWithin x 0 ((gs.length:Int) - 1) w)
     have hw:IntKind.i64.wrap ((gs.length:Int) - 1)=(gs.length:Int) - 1:=IntWalk.i64_in _ (by omega)
     obtain ⟨v,hv⟩:∃ v,inB x 0 ((gs.length:Int) - 1)=v:=⟨_,rfl⟩
     have hv2:wireB gs.length x=v:=hv
     rw [hv] at HS
     rw [hv2] at hs2
     have HSC:=hid (hsc.trans hs2)
     have HB:=hid hb
     clear hq hsc hs2 hv hv2 hx hb
     cases v
     ·have HP:=hid (circ_o (HSC.out.trans (Bool.false_and _)))
      go_wp2_with (go_at_call 56; refine (HS.out _).mono ?_; rintro e w' ⟨rfl,rfl⟩)
      go_ret
      exact ⟨by rw [HP.out]; rfl,HB.out⟩
     ·go_wp2_with (go_at_call 56; refine (HS.out _).mono ?_; rintro e w' ⟨rfl,rfl⟩)
      go_roundw
      case rel=>exact ⟨j + 1,by omega,by go_num,HSC.out.trans (Bool.true_and _),HX.out,HB.out⟩
      case measure=>simp [intOf]; omega
    ·obtain rfl:j=os.length:=by omega
     rw [List.drop_length] at hsc
     have HP:=hid (show circB gs os=true by unfold circB; rw [HGG.out,hsc,decide_eq_true (by omega)]; rfl)
     have HB:=hid hb
     clear hsc hx hb
     go_wp2
     go_ret
     exact ⟨by rw [HP.out]; rfl,HB.out⟩
set_option linter.unusedVariables false in
set_option maxRecDepth 100000 in
set_option maxHeartbeats 3200000 in
theorem sCircOk (G O:Option Addr) (cg co:Nat) (gs:List Gt) (os:List Int) (w:World) (hg:Cells w w.heap.size G (ints (flatG gs))) (ho:Cells w w.heap.size O (ints os)) (hn:gs.length≤1000000) (hm:os.length≤1000000) :
  Calls Tryz.prog 62 #[.agg #[.slice G gs.length cg,.slice O os.length co]] w fun e w'=>e=.returned (.bool (circB gs os))∧Below w.heap.size w w':=by
 have HG:=hid hg
 have HO:=hid ho
 clear hg ho
 go_enter Tryz.func62,Tryz.ntmps62
 have b_0:=(Below.refl w.heap.size w)
 have s_0:=b_0.size
 go_upto_region 1 with fail
 refine wp_forget1 (w0:=w) (B:=w.heap.size) (b0:=w.heap.size) (t0:=40) (c0:=#[.slice G gs.length cg,.slice O os.length co]) ?_ ?_ ?_
 (focus exact blkcBy)
 (focus (exact belBy))
 intro w1 x_1 hX1
 have sX1:=hX1.size
 have x_lt:=x_1.lt
 have b_1:=b_0.trans (hX1.mono (by omega))
 clear b_0 hX1
 have cell_x:=x_1.cell
 have froz_x:=x_1.frozen
 have lt_x:=x_1.lt
 have X1:=hid x_1
 have B1:=hid b_1
 clear x_1 b_1 froz_x lt_x
 go_wp2
 clear cell_x
 go_loopw [3] (fun i wr=>∃ (j:Nat),j≤gs.length∧i=.int .i64 j∧gatesB 0 gs=gatesB j (gs.drop j)∧Blk wr w.heap.size 40 #[.slice G gs.length cg,.slice O os.length co]∧Below w.heap.size w wr) (fun i _=>gs.length - (intOf i).toNat)
 case atStart=>exact ⟨0,Nat.zero_le _,rfl,rfl,X1.out,B1.out⟩
 case round =>
  obtain ⟨j,hj,rfl,hsc,hx,hb⟩:=hrel
  have zb:=hb.size
  by_cases hlt:j < gs.length
  ·obtain ⟨⟨k,a,e⟩,hq⟩:∃ s,gs[j]? = some s:=⟨_,List.getElem?_eq_getElem hlt⟩
   obtain ⟨b,off,rfl,hB,d0,d1,d2⟩:=gt_cells HG.out hb hq
   have hs2:=gates_at hq
   have hlt':(j:Int) < (gs.length:Int):=by omega
   have HS:=hid (fun w=>sGateOk k a e j w)
   obtain ⟨v,hv⟩:∃ v,gateB ⟨k,a,e⟩ (j:Int)=v:=⟨_,rfl⟩
   rw [hv] at HS hs2
   have HSC:=hid (hsc.trans hs2)
   clear hq hsc hs2 hv
   have b_30:=hb
   have s_30:=b_30.size
   have x_30:=hx
   clear hx
   have x_lt:=x_30.lt
   have cell_x:=x_30.cell
   have froz_x:=x_30.frozen
   have lt_x:=x_30.lt
   go_wp2_with fail
   refine calls_forget0 (W:=wr) ?_ ?_
   (focus (exact belBy))
   intro X31 hX31
   have sX31:=hX31.size
   refine (HS.out _).mono ?_
   rintro e w31 ⟨rfl,hb31⟩
   have s31:=hb31.size
   have hT31:=hX31.trans (hb31.mono sX31)
   have b_31:=b_30.trans (hT31.mono (by omega))
   have x_31:=Blk.past hT31 x_30
   clear x_30 b_30 cell_x froz_x lt_x hX31 hT31 hb31
   have cell_x:=x_31.cell
   have froz_x:=x_31.frozen
   have lt_x:=x_31.lt
   have HB:=hid b_31
   have HX:=hid x_31
   clear b_31 x_31 d0 d1 d2
   cases v
   ·have HP:=hid (circ_g (os:=os) (HSC.out.trans (Bool.false_and _)))
    go_wp2
    go_ret
    exact ⟨by rw [HP.out]; rfl,HB.out⟩
   ·go_wp2
    go_roundw
    case rel=>exact ⟨j + 1,by omega,by go_num,HSC.out.trans (Bool.true_and _),HX.out,HB.out⟩
    case measure=>simp [intOf]; omega
  ·obtain rfl:j=gs.length:=by omega
   rw [List.drop_length] at hsc
   have HGG:=hid hsc
   have HX:=hid hx
   have HB:=hid hb
   have cell_x:=hx.cell
   have lt_x:=hx.lt
   clear hsc hx hb X1 B1
   go_wp2
   clear cell_x lt_x
   go_loopw [4] (fun i wx=>∃ (j:Nat),j≤os.length∧i=.int .i64 j∧outsB gs.length os=outsB gs.length (os.drop j)∧Blk wx w.heap.size 40 #[.slice G gs.length cg,.slice O os.length co]∧Below w.heap.size w wx) (fun i _=>os.length - (intOf i).toNat)
   case atStart=>exact ⟨0,Nat.zero_le _,rfl,rfl,HX.out,HB.out⟩
   case round =>
    obtain ⟨j,hj,rfl,hsc,hx,hb⟩:=hrel
    have cell_x:=hx.cell
    have lt_x:=hx.lt
    have HX:=hid hx
    by_cases hlt:j < os.length
    ·obtain ⟨x,hq⟩:∃ s,os[j]? = some s:=⟨_,List.getElem?_eq_getElem hlt⟩
     obtain ⟨b,off,rfl,hB,d0⟩:=int_cells HO.out hb hq
     have hs2:=outs_at (n:=gs.length) hq
     have hlt':(j:Int) < (os.length:Int):=by omega
     have HS:=hid (fun w=>sWithin x 0 ((gs.length:Int) - 1) w)
     have hw:IntKind.i64.wrap ((gs.length:Int) - 1)=(gs.length:Int) - 1:=IntWalk.i64_in _ (by omega)
     obtain ⟨v,hv⟩:∃ v,inB x 0 ((gs.length:Int) - 1)=v:=⟨_,rfl⟩
     have hv2:wireB gs.length x=v:=hv
     rw [hv] at HS
     rw [hv2] at hs2
     have HSC:=hid (hsc.trans hs2)
     have HB:=hid hb
     clear hq hsc hs2 hv hv2 hx hb
     have zb:=HB.out.size
     have hbz:b < wr.heap.size:=by omega
     have q0:=fun (x:Later wr) (o:Nat)=>(HX.out.below x.below HX.out.lt).cell o
     have q1:=fun (x:Later wr)=>(x.below.cell (p:=⟨b,off + j,none⟩) hbz).trans d0
     go_wp2_with fail
     refine wp_region_later (by kernel_rfl) (by kernel_rfl) ?_
     repeat (go_big_quiet_step ((go_at_call 123; exact Calls.later_same (HS.out _))))
     refine wpQuiet_nil ?_
     rintro _ ⟨⟨w1,hb1⟩,rfl⟩
     try dsimp only
     have HX1:=hid (HX.out.below hb1 HX.out.lt)
     have HB1:=hid (HB.out.trans (hb1.mono zb))
     clear q0 q1 hb1
     cases v
     ·have HP:=hid (circ_o (HSC.out.trans (Bool.false_and _)))
      go_wp2
      go_ret
      exact ⟨by rw [HP.out]; rfl,HB1.out⟩
     ·go_wp2
      go_roundw
      case rel=>exact ⟨j + 1,by omega,by go_num,HSC.out.trans (Bool.true_and _),HX1.out,HB1.out⟩
      case measure=>simp [intOf]; omega
    ·obtain rfl:j=os.length:=by omega
     rw [List.drop_length] at hsc
     have HP:=hid (show circB gs os=decide (gs.length≤6000) by unfold circB; rw [HGG.out,hsc]; simp [gatesB,outsB])
     have HB:=hid hb
     clear hsc hx hb
     by_cases h6:gs.length≤6000
     ·have h6':(gs.length:Int)≤6000:=by omega
      go_wp2
      go_ret
      exact ⟨by rw [HP.out,decide_eq_true h6]; rfl,HB.out⟩
     ·have h6':¬ (gs.length:Int)≤6000:=by omega
      go_wp2
      go_ret
      exact ⟨by rw [HP.out,decide_eq_false h6]; rfl,HB.out⟩
open Go.RowKit
theorem own_ne {w:World} {b1 b2 e1 e2 s1 s2 n1 n2:Nat} {v1 v2:Value} {xs ys:List Value} (h1:w.ownsRow b1 e1 s1 v1 n1 xs) (h2:w.ownsRow b2 e2 s2 v2 n2 ys) (hne:e1≠e2) :
  ∀ q p,v1.ownBlock=some q→v2.ownBlock=some p→q≠p:=by
 intro q p hq hp e
 subst e
 rcases h1.2 with ⟨hv,_⟩ | ⟨g,cap,cur,hv,hg,hh,_⟩
 ·rw [hv] at hq; cases hq
 ·rcases h2.2 with ⟨hv2,_⟩ | ⟨g2,cap2,cur2,hv2,hg2,hh2,_⟩
  ·rw [hv2] at hp; cases hp
  ·rw [hv] at hq
   rw [hv2] at hp
   have e1':g=q:=Option.some.inj hq
   have e2':g2=q:=Option.some.inj hp
   subst e1'
   subst e2'
   rw [hh] at hh2
   injection hh2 with hh2
   injection hh2 with _ h3 _
   exact hne h3
theorem own_off {w:World} {base e size n o t:Nat} {v:Value} {xs:List Value} {cs:Array Value} (h:w.ownsRow base e size v n xs) (k:Blk w o t cs) (hne:e≠t):∀ q,v.ownBlock=some q→base≤q∧q < w.heap.size∧q≠o:=by
 intro q hq
 refine ⟨(h.lt q hq).1,(h.lt q hq).2,?_⟩
 rintro rfl
 rcases h.2 with ⟨hv,_⟩ | ⟨g,cap,cur,hv,_,hh,_⟩
 ·rw [hv] at hq
  cases hq
 ·rw [hv] at hq
  have e1:g=q:=Option.some.inj hq
  subst e1
  unfold Blk at k
  rw [hh] at k
  injection k with k
  injection k with _ k _
  exact hne k
theorem own_setne {w:World} {base e size n:Nat} {v:Value} {xs:List Value} {p:Addr} {u:Value} (h:w.ownsRow base e size v n xs) (hne:∀ q,v.ownBlock=some q→q≠p.block):(w.setCell p u).ownsRow base e size v n xs:=by
 refine ⟨h.1,?_⟩
 rcases h.2 with ⟨hv,hn⟩ | ⟨g,cap,cur,hv,hg,hh,hr⟩
 ·exact Or.inl ⟨hv,hn⟩
 ·refine Or.inr ⟨g,cap,cur,hv,hg,?_,hr⟩
  rw [Below.heap_setCell w p u g (hne g (by rw [hv]; rfl))]
  exact hh
theorem own_ne_obj {w:World} {base e size n o t:Nat} {v:Value} {xs:List Value} {cs:Array Value} (h:w.ownsRow base e size v n xs) (k:Blk w o t cs) (hne:e≠t):∀ q,v.ownBlock=some q→q≠o:=fun q hq=>(own_off h k hne q hq).2.2
abbrev TG:Nat:=96
def Other (T:Nat) (w:World) (i:Nat):Prop:=∀ cs t m,w.heap[i]? = some (.cells cs t m)→t≠T∧t≠TG
structure Stay (T lo:Nat) (w w':World):Prop where
 os:w'.os=w.os
 tape:w'.tape=w.tape
 output:w'.output=w.output
 size:w.heap.size≤w'.heap.size
 block:∀ i,i < w.heap.size→(i < lo∨Other T w i)→w'.heap[i]? = w.heap[i]?
section
variable {T lo:Nat} {w w1 w':World}
theorem Stay.refl (T lo:Nat) (w:World):Stay T lo w w:=⟨rfl,rfl,rfl,Nat.le_refl _,fun _ _ _=>rfl⟩
theorem Stay.trans (h1:Stay T lo w w1) (h2:Stay T lo w1 w'):Stay T lo w w' :=
 ⟨h2.os.trans h1.os,h2.tape.trans h1.tape,h2.output.trans h1.output,Nat.le_trans h1.size h2.size,fun i hi ho=>by
  have e:=h1.block i hi ho
  refine (h2.block i (Nat.lt_of_lt_of_le hi h1.size) ?_).trans e
  rcases ho with ho | ho
  ·exact .inl ho
  ·exact .inr fun cs t m hc=>ho cs t m (e.symm.trans hc)⟩
theorem Stay.below (h:Stay T lo w w') (hl:lo≤w.heap.size):Below lo w w' :=
 ⟨h.os,h.tape,h.output,h.size,fun i hi=>h.block i (by omega) (.inl hi)⟩
theorem Stay.of_below (h:Below w.heap.size w w'):Stay T lo w w':=⟨h.os,h.tape,h.output,h.size,fun i hi _=>h.block i hi⟩
theorem Stay.own (h:Stay T lo w w') {base e size n:Nat} {v:Value} {xs:List Value} (k:w.ownsRow base e size v n xs) (h1:e≠T) (h2:e≠TG):w'.ownsRow base e size v n xs:=by
 refine ⟨k.1,?_⟩
 rcases k.2 with hv | ⟨g,cap,cur,hv,hg,hh,r⟩
 ·exact .inl hv
 ·have hlt:g < w.heap.size:=by
   rcases Nat.lt_or_ge g w.heap.size with h0 | h0
   ·exact h0
   ·rw [Array.getElem?_eq_none h0] at hh; cases hh
  refine .inr ⟨g,cap,cur,hv,hg,(h.block g hlt (.inr fun cs t m hc=>?_)).trans hh,r⟩
  rw [hh] at hc
  injection hc with hc
  injection hc with _ e2 _
  subst e2
  exact ⟨h1,h2⟩
theorem Stay.row (h:Stay T lo w w') {g e size n c:Nat} {xs:List Value} (k:Row w g e size n c xs) (h1:e≠T) (h2:e≠TG):Row w' g e size n c xs:=h.own k h1 h2
theorem Stay.blk (h:Stay T lo w w') {b t:Nat} {cs:Array Value} (k:Blk w b t cs) (h1:t≠T) (h2:t≠TG):Blk w' b t cs :=
 (h.block b k.lt (.inr fun cs' t' m hc=>by
  unfold Blk at k
  rw [k] at hc
  injection hc with hc
  injection hc with _ e2 _
  subst e2
  exact ⟨h1,h2⟩)).trans k
end
def Bld (T:Nat) (w:World) (lo bp:Nat) (gs:List Gt) (O:Value):Prop :=
 ∃ A c,Blk w bp T #[.slice A gs.length c,O]∧lo≤bp∧w.ownsRow lo TG 3 (.slice A gs.length c) gs.length (ints (flatG gs))
def Wd (w:World) (A:Option Addr) (xs:List Int):Prop :=
 ∃ b off cs m,A=some ⟨b,off,none⟩∧w.heap[b]? = some (.cells cs 3 m)∧∀ (i:Nat) (v:Value),(ints xs)[i]? = some v→cs[off + i]? = some v
section
variable {T lo:Nat} {w w':World} {A:Option Addr} {xs:List Int}
theorem Wd.lt {b off:Nat} (h:Wd w (some ⟨b,off,none⟩) xs):b < w.heap.size:=by
 obtain ⟨b',off',cs,m,e,hb,hc⟩:=h
 injection e with e
 injection e with e1 e2
 subst e1 e2
 rcases Nat.lt_or_ge b w.heap.size with h0 | h0
 ·exact h0
 ·rw [Array.getElem?_eq_none h0] at hb; cases hb
theorem Wd.at_ (h:Wd w A xs):∃ b off,A=some ⟨b,off,none⟩:=by
 obtain ⟨b,off,_,_,e,_⟩:=h
 exact ⟨b,off,e⟩
theorem Wd.cell {b off:Nat} (h:Wd w (some ⟨b,off,none⟩) xs) {i:Nat} {x:Int} (hx:xs[i]? = some x):w.cell? ⟨b,off + i,none⟩=some (.int .i64 x):=by
 obtain ⟨b',off',cs,m,e,hb,hc⟩:=h
 injection e with e
 injection e with e1 e2
 subst e1 e2
 have:=hc i _ (ints_get hx)
 simp [World.cell?,hb,this]
theorem Wd.stay (h:Wd w A xs) (hs:Stay T lo w w') (h1:3≠T):Wd w' A xs:=by
 obtain ⟨b,off,cs,m,e,hb,hc⟩:=h
 have hlt:b < w.heap.size:=by
  rcases Nat.lt_or_ge b w.heap.size with h0 | h0
  ·exact h0
  ·rw [Array.getElem?_eq_none h0] at hb; cases hb
 refine ⟨b,off,cs,m,e,(hs.block b hlt (.inr fun cs' t m' hc'=>?_)).trans hb,hc⟩
 rw [hb] at hc'
 injection hc' with hc'
 injection hc' with _ e2 _
 subst e2
 exact ⟨h1,by decide⟩
theorem Wd.below (h:Wd w A xs) (hb:Below w.heap.size w w'):Wd w' A xs:=by
 obtain ⟨b,off,cs,m,e,hh,hc⟩:=h
 have hlt:b < w.heap.size:=by
  rcases Nat.lt_or_ge b w.heap.size with h0 | h0
  ·exact h0
  ·rw [Array.getElem?_eq_none h0] at hh; cases hh
 exact ⟨b,off,cs,m,e,(hb.block b hlt).trans hh,hc⟩
theorem Wd.of_row {g n c:Nat} (h:RowI w g n c xs):Wd w (some ⟨g,0,none⟩) xs:=by
 obtain ⟨h0,cur,h1,h2,h3,h4,h5⟩:=Row.parts h
 refine ⟨g,0,cur,(0,0),rfl,h1,fun i v hv=>?_⟩
 rw [Nat.zero_add]
 rw [←h5,List.getElem?_take] at hv
 split at hv
 ·simpa using hv
 ·cases hv
theorem Wd.drop {b off:Nat} (h:Wd w (some ⟨b,off,none⟩) xs) (k:Nat):Wd w (some ⟨b,off + k,none⟩) (xs.drop k):=by
 obtain ⟨b',off',cs,m,e,hb,hc⟩:=h
 injection e with e
 injection e with e1 e2
 subst e1 e2
 refine ⟨b,off + k,cs,m,rfl,hb,fun i v hv=>?_⟩
 rw [Nat.add_assoc]
 refine hc (k + i) v ?_
 unfold ints at hv ⊢
 rw [List.getElem?_map,List.getElem?_drop] at hv
 rw [List.getElem?_map]
 exact hv
theorem Wd.cells (h:Wd w A xs):Cells w w.heap.size A (ints xs):=fun _=>by
 obtain ⟨b,off,rfl⟩:=h.at_
 refine ⟨b,off,rfl,h.lt,fun i v hv=>?_⟩
 obtain ⟨x,hx,rfl⟩:∃ x,xs[i]? = some x∧Value.int .i64 x=v:=by
  unfold ints at hv
  rw [List.getElem?_map] at hv
  cases hx:xs[i]? with
  | none=>rw [hx] at hv; cases hv
  | some x=>rw [hx] at hv; injection hv with hv; exact ⟨x,rfl,hv⟩
 exact h.cell hx
end
theorem int3_one (a b c:Int):∀ u∈[Value.int .i64 a,.int .i64 b,.int .i64 c],u.oneCell'=true:=by
 intro u hu
 simp at hu
 rcases hu with rfl | rfl | rfl <;> rfl
theorem bld_put {T lo bp:Nat} {w w1:World} {gs:List Gt} {g:Gt} {O:Value} {A A':Option Addr} {c c':Nat} (hT:TG≠T) (hb:Blk w bp T #[.slice A gs.length c,O]) (hl:lo≤bp) (ho:w.ownsRow lo TG 3 (.slice A gs.length c) gs.length (ints (flatG gs)))
  (ho':w1.ownsRow lo TG 3 (.slice A' (gs.length + 1) c') (gs.length + 1) (ints (flatG gs) ++ ints (threeG g))) (hg:w.grownBy w1 (Value.slice A gs.length c).ownBlock) :
  Blk w1 bp T #[.slice A gs.length c,O]∧Bld T (w1.setCell ⟨bp,0,none⟩ (.slice A' (gs.length + 1) c')) lo bp (gs ++ [g]) O∧Stay T lo w (w1.setCell ⟨bp,0,none⟩ (.slice A' (gs.length + 1) c')):=by
 have hb1:=gr_blk hg hb (own_ne_obj ho hb hT)
 have hlen:(gs ++ [g]).length=gs.length + 1:=by simp
 refine ⟨hb1,⟨A',c',?_,hl,?_⟩,⟨hg.os,hg.tape,hg.output,by have:=hg.size; simpa using this,fun i hi hs=>?_⟩⟩
 ·rw [hlen]
  exact hb1.set_ 0 _
 ·rw [hlen,flatG_snoc,ints_app]
  exact own_setne ho' (own_ne_obj ho' hb1 hT)
 ·have hi1:i≠bp:=by
   rcases hs with hs | hs
   ·omega
   ·rintro rfl
    exact (hs _ _ _ hb).1 rfl
  refine (Below.heap_setCell w1 _ _ i hi1).trans (hg.block i hi fun e=>?_)
  rcases hs with hs | hs
  ·have:=(ho.lt i e.symm).1
   omega
  ·rcases ho.2 with ⟨hv,_⟩ | ⟨q,cap,cur,hv,_,hh,_⟩
   ·rw [hv] at e
    cases e
   ·rw [hv] at e
    have e:some i=some q:=e
    injection e with e
    subst e
    exact (hs _ _ _ hh).2 rfl
open Go.RowKit
abbrev TI:Nat:=159
abbrev TS:Nat:=40
set_option linter.unusedVariables false in
theorem iGate {lo bp:Nat} {gs:List Gt} {O:Value} {n:Nat} (k x y:Int) (w:World) (h:Bld TI w lo bp gs O) (hn:gs.length=n) (hs:n≤100000) :
  Calls Tryz.prog 158 #[.pointer (some ⟨bp,0,none⟩),.int .i64 k,.int .i64 x,.int .i64 y] w fun e w'=>e=.returned (.int .i64 (n:Int))∧Bld TI w' lo bp (gs ++ [⟨k,x,y⟩]) O∧Stay TI lo w w':=by
 subst hn
 obtain ⟨A,c,hb,hl,ho⟩:=h
 have cell_b:=hb.cell
 have froz_b:=hb.frozen
 have lt_b:=hb.lt
 have H:=hid (And.intro hb ho)
 clear hb ho
 go_enter Tryz.func158,Tryz.ntmps158
 go_wp2_with (at_builtin; refine wpList_appi rfl _ _ 38 rfl lo TG (.agg #[.int .i64 0,.int .i64 0,.int .i64 0]) 3 24 Tryz.underlying38 infoGt rfl (by decide) _ gs.length _ rfl (H.out.2.alloc _) ⟨w.heap.size,0,none⟩ 1 1 _ rfl rfl (many_new _ [_,_,_] _) (int3_one _ _ _) (by omega) (by decide) (by simp; omega) ?_)
 intro A' c' w1 h1 h2 _
 have h2:=grown_alloc h2
 obtain ⟨hb1,hB,hS⟩:=bld_put (T:=TI) (g:=⟨k,x,y⟩) (by decide) H.out.1 hl H.out.2 h1 h2
 have HR:=hid (And.intro hB hS)
 have cell_b1:=hb1.cell
 have froz_b1:=hb1.frozen
 have lt_b1:=hb1.lt
 have hw:IntKind.i64.wrap ((gs.length + 1:Nat) - 1:Int)=(gs.length:Int):=by rw [IntWalk.i64_in _ (by omega)]; omega
 clear h1 h2 hb1 hB hS cell_b froz_b lt_b H
 go_wp2
 go_ret
 exact ⟨by first | rfl | simp,HR.out.1,HR.out.2⟩
set_option linter.unusedVariables false in
theorem sGate {lo bp:Nat} {gs:List Gt} {O:Value} {n:Nat} (k x y:Int) (w:World) (h:Bld TS w lo bp gs O) (hn:gs.length=n) (hs:n≤100000) :
  Calls Tryz.prog 114 #[.pointer (some ⟨bp,0,none⟩),.int .i64 k,.int .i64 x,.int .i64 y] w fun e w'=>e=.returned (.int .i64 (n:Int))∧Bld TS w' lo bp (gs ++ [⟨k,x,y⟩]) O∧Stay TS lo w w':=by
 subst hn
 obtain ⟨A,c,hb,hl,ho⟩:=h
 have cell_b:=hb.cell
 have froz_b:=hb.frozen
 have lt_b:=hb.lt
 have H:=hid (And.intro hb ho)
 clear hb ho
 go_enter Tryz.func114,Tryz.ntmps114
 go_wp2_with (at_builtin; refine wpList_appi rfl _ _ 38 rfl lo TG (.agg #[.int .i64 0,.int .i64 0,.int .i64 0]) 3 24 Tryz.underlying38 infoGt rfl (by decide) _ gs.length _ rfl (H.out.2.alloc _) ⟨w.heap.size,0,none⟩ 1 1 _ rfl rfl (many_new _ [_,_,_] _) (int3_one _ _ _) (by omega) (by decide) (by simp; omega) ?_)
 intro A' c' w1 h1 h2 _
 have h2:=grown_alloc h2
 obtain ⟨hb1,hB,hS⟩:=bld_put (T:=TS) (g:=⟨k,x,y⟩) (by decide) H.out.1 hl H.out.2 h1 h2
 have HR:=hid (And.intro hB hS)
 have cell_b1:=hb1.cell
 have froz_b1:=hb1.frozen
 have lt_b1:=hb1.lt
 have hw:IntKind.i64.wrap ((gs.length + 1:Nat) - 1:Int)=(gs.length:Int):=by rw [IntWalk.i64_in _ (by omega)]; omega
 clear h1 h2 hb1 hB hS cell_b froz_b lt_b H
 go_wp2
 go_ret
 exact ⟨by first | rfl | simp,HR.out.1,HR.out.2⟩
open Go.RowKit
set_option linter.unusedVariables false in
theorem iFull {lo bp:Nat} {gs:List Gt} {O:Value} {n:Nat} (x y c:Int) (w:World) (h:Bld TI w lo bp gs O) (hn:gs.length=n) (hs:n≤90000) :
  Calls Tryz.prog 188 #[.pointer (some ⟨bp,0,none⟩),.int .i64 x,.int .i64 y,.int .i64 c] w fun e w'=>e=.returned (.tuple #[.int .i64 ((n + 2:Nat):Int),.int .i64 ((n + 4:Nat):Int)])∧Bld TI w' lo bp (fullG gs x y c) O∧Stay TI lo w w':=by
 subst hn
 have H0:=hid h
 clear h
 go_enter Tryz.func188,Tryz.ntmps188
 go_wp2_with fail
 refine (iGate (n:=gs.length + 0) _ _ _ _ H0.out (by simp) (by omega)).mono ?_
 rintro e w1 ⟨rfl,h,t⟩
 have H1:=hid h
 have T1:=hid t
 clear h t
 go_wp2_with fail
 refine (iGate (n:=gs.length + 1) _ _ _ _ H1.out (by simp) (by omega)).mono ?_
 rintro e w2 ⟨rfl,h,t⟩
 have H2:=hid h
 have T2:=hid (T1.out.trans t)
 clear h t
 go_wp2_with fail
 refine (iGate (n:=gs.length + 2) _ _ _ _ H2.out (by simp) (by omega)).mono ?_
 rintro e w3 ⟨rfl,h,t⟩
 have H3:=hid h
 have T3:=hid (T2.out.trans t)
 clear h t
 go_wp2_with fail
 refine (iGate (n:=gs.length + 3) _ _ _ _ H3.out (by simp) (by omega)).mono ?_
 rintro e w4 ⟨rfl,h,t⟩
 have H4:=hid h
 have T4:=hid (T3.out.trans t)
 clear h t
 go_wp2_with fail
 refine (iGate (n:=gs.length + 4) _ _ _ _ H4.out (by simp) (by omega)).mono ?_
 rintro e w5 ⟨rfl,h,t⟩
 have H5:=hid h
 have T5:=hid (T4.out.trans t)
 clear h t
 go_wp2
 go_returns
 refine ⟨rfl,?_,T5.out⟩
 have h:=H5.out
 simp only [List.append_assoc,List.cons_append,List.nil_append] at h
 exact h
set_option linter.unusedVariables false in
theorem sFull {lo bp:Nat} {gs:List Gt} {O:Value} {n:Nat} (x y c:Int) (w:World) (h:Bld TS w lo bp gs O) (hn:gs.length=n) (hs:n≤90000) :
  Calls Tryz.prog 174 #[.pointer (some ⟨bp,0,none⟩),.int .i64 x,.int .i64 y,.int .i64 c] w fun e w'=>e=.returned (.tuple #[.int .i64 ((n + 2:Nat):Int),.int .i64 ((n + 4:Nat):Int)])∧Bld TS w' lo bp (fullG gs x y c) O∧Stay TS lo w w':=by
 subst hn
 have H0:=hid h
 clear h
 go_enter Tryz.func174,Tryz.ntmps174
 go_wp2_with fail
 refine (sGate (n:=gs.length + 0) _ _ _ _ H0.out (by simp) (by omega)).mono ?_
 rintro e w1 ⟨rfl,h,t⟩
 have H1:=hid h
 have T1:=hid t
 clear h t
 go_wp2_with fail
 refine (sGate (n:=gs.length + 1) _ _ _ _ H1.out (by simp) (by omega)).mono ?_
 rintro e w2 ⟨rfl,h,t⟩
 have H2:=hid h
 have T2:=hid (T1.out.trans t)
 clear h t
 go_wp2_with fail
 refine (sGate (n:=gs.length + 2) _ _ _ _ H2.out (by simp) (by omega)).mono ?_
 rintro e w3 ⟨rfl,h,t⟩
 have H3:=hid h
 have T3:=hid (T2.out.trans t)
 clear h t
 go_wp2_with fail
 refine (sGate (n:=gs.length + 3) _ _ _ _ H3.out (by simp) (by omega)).mono ?_
 rintro e w4 ⟨rfl,h,t⟩
 have H4:=hid h
 have T4:=hid (T3.out.trans t)
 clear h t
 go_wp2_with fail
 refine (sGate (n:=gs.length + 4) _ _ _ _ H4.out (by simp) (by omega)).mono ?_
 rintro e w5 ⟨rfl,h,t⟩
 have H5:=hid h
 have T5:=hid (T4.out.trans t)
 clear h t
 go_wp2
 go_returns
 refine ⟨rfl,?_,T5.out⟩
 have h:=H5.out
 simp only [List.append_assoc,List.cons_append,List.nil_append] at h
 exact h
open Go.RowKit
section
variable {T lo:Nat} {w w0 w1 w':World} {gs:List Gt} {O:Value} {bp g:Nat}
theorem Stay.drew (h:Stay T lo w w'):Stay T lo w w'.drew:=⟨h.os,h.tape,h.output,h.size,h.block⟩
theorem Stay.alloc (h:Stay T lo w w') (o:Obj):Stay T lo w (w'.alloc o) :=
 ⟨h.os,h.tape,h.output,by have:=h.size; simp; omega,fun i hi hn=>(Below.heap_alloc w' o i (Nat.lt_of_lt_of_le hi h.size)).trans (h.block i hi hn)⟩
theorem Stay.past (h:Stay T lo w w1) (hb:Below w1.heap.size w1 w'):Stay T lo w w':=h.trans (Stay.of_below hb)
theorem Stay.grown (h:Stay T lo w w1) (hg:w1.grownBy w' (some g)) (hw:w.heap.size≤g):Stay T lo w w' :=
 ⟨hg.os.trans h.os,hg.tape.trans h.tape,hg.output.trans h.output,Nat.le_trans h.size hg.size,fun i hi hn=>(hg.block i (Nat.lt_of_lt_of_le hi h.size) (fun e=>by injection e with e; omega)).trans (h.block i hi hn)⟩
theorem Stay.onto {X:World} (h:Stay T lo w w1) (t:Stay T lo X w') (h1:X.os=w1.os) (h2:X.tape=w1.tape) (h3:X.output=w1.output) (h4:X.heap=w1.heap):Stay T lo w w' :=
 h.trans ⟨t.os.trans h1,t.tape.trans h2,t.output.trans h3,by rw [←h4]; exact t.size,fun i hi hn=>by
  rw [←h4] at hi ⊢
  refine t.block i hi ?_
  unfold Other at hn ⊢
  rw [h4]
  exact hn⟩
theorem Bld.heap {X:World} (h:Bld T w lo bp gs O) (e:X.heap=w.heap):Bld T X lo bp gs O:=by
 unfold Bld Blk World.ownsRow at h ⊢
 rw [e]
 exact h
theorem Bld.drew (h:Bld T w lo bp gs O):Bld T w.drew lo bp gs O:=h
theorem Bld.below (h:Bld T w lo bp gs O) (hb:Below w.heap.size w w'):Bld T w' lo bp gs O:=by
 obtain ⟨A,c,h1,h2,h3⟩:=h
 exact ⟨A,c,Blk.past hb h1,h2,own_below h3 hb⟩
theorem Bld.grown {n c:Nat} {xs:List Int} (h:Bld T w lo bp gs O) (hg:w.grownBy w' (some g)) (hr:RowI w g n c xs) (hT:3≠T):Bld T w' lo bp gs O:=by
 obtain ⟨A,k,h1,h2,h3⟩:=h
 refine ⟨A,k,gr_blk hg h1 fun q hq=>?_,h2,gr_own hg h3 fun q p hq hp=>?_⟩
 ·injection hq with hq
  subst hq
  exact own_ne_obj hr h1 hT _ rfl
 ·injection hq with hq
  subst hq
  exact own_ne hr h3 (by decide) _ _ rfl hp
theorem Bld.len (h:Bld T w lo bp gs O):bp < w.heap.size∧lo≤bp:=by
 obtain ⟨A,k,h1,h2,_⟩:=h
 exact ⟨h1.lt,h2⟩
theorem Wd.heap {X:World} {A:Option Addr} {xs:List Int} (h:Wd w A xs) (e:X.heap=w.heap):Wd X A xs:=by
 unfold Wd at h ⊢
 rw [e]
 exact h
theorem Wd.onto {X:World} {A:Option Addr} {xs:List Int} (h:Wd w A xs) (t:Stay T lo X w') (e:X.heap=w.heap) (h1:3≠T):Wd w' A xs:=(h.heap e).stay t h1
theorem Row.onto {X:World} {e s n c:Nat} {xs:List Value} (h:Row w g e s n c xs) (t:Stay T lo X w') (he:X.heap=w.heap) (h1:e≠T) (h2:e≠TG):Row w' g e s n c xs:=by
 have h':Row X g e s n c xs:=by
  unfold Row World.ownsRow at h ⊢
  rw [he]
  exact h
 exact t.row h' h1 h2
theorem Wd.grown {xs:List Int} {b off:Nat} (h:Wd w (some ⟨b,off,none⟩) xs) (hg:w.grownBy w' (some g)) (hne:b≠g):Wd w' (some ⟨b,off,none⟩) xs:=by
 have hlt:=h.lt
 obtain ⟨b',off',cs,m,e,hh,hc⟩:=h
 injection e with e
 injection e with e1 e2
 subst e1 e2
 exact ⟨b,off,cs,m,rfl,(hg.block b hlt (fun e=>by injection e with e; omega)).trans hh,hc⟩
end
set_option linter.unusedVariables false in
theorem iIntsAt {b off:Nat} {xs:List Int} {n:Nat} (c:Nat) (w:World) (h:∀ j u,(ints xs)[j]? = some u→w.cell? ⟨b,off + j,none⟩=some u) (hb:b < w.heap.size) (hl:xs.length=n) (hn:n≤100000) :
  Calls Tryz.prog 108 #[.slice (some ⟨b,off,none⟩) n c] w fun e w'=>∃ g k,e=.returned (.slice (some ⟨g,0,none⟩) n k)∧w.heap.size≤g∧RowI w' g n k xs∧Below w.heap.size w w':=by
 have H:=hid h
 clear h
 go_enter Tryz.func108,Tryz.ntmps108
 go_wp2_with (at_builtin; refine app_int (L:=[]) rfl _ _ rfl rfl (Row.new #[] (Nat.zero_le _) rfl rfl) xs rfl hl (fun j u hu=>(cell_alloc (H.out j u hu) hb)) (by omega) ?_)
 intro g' c' w' h1 h2 h3
 have h2:=grown_alloc h2
 have hB:=below_apps (Below.refl w.heap.size w) h2 (Nat.le_refl _) (Nat.le_refl _)
 have HR:=hid (And.intro h1 hB)
 have hg:w.heap.size≤g':=by (try simp at h3); omega
 clear h1 h2 h3 hB
 go_wp2
 go_returns
 exact ⟨g',c',rfl,hg,HR.out.1,HR.out.2⟩
end Go.Proofs.YtihbaieiempjeaaGreat
