/- The law that every party's run answers alike (FnEveryParty). No conditions. -/
import Derived.Test.YtihbaieiempjeaaGreatC0
import Derived.Test.YtihbaieiempjeaaGreatC4
import Derived.Test.YtihbaieiempjeaaGreatC20
import Derived.Test.YtihbaieiempjeaaGreatC22
set_option linter.unusedVariables false
namespace Go.Proofs.YtihbaieiempjeaaGreat
open Go.RowKit Go.ChangeShapes Go.WideShapes Go.ChangeAt
def PairOf (base n:Nat) (xs:List Int) (v:Value) (w:World):Prop:=∃ A c,v=.tuple #[.slice A n c,.bool true]∧w.ownsRow base 3 1 (.slice A n c) n (ints xs)
theorem PairOf.stable {base n:Nat} {xs:List Int}:∀ v w w',PairOf base n xs v w→Grows w w'→PairOf base n xs v w':=by
 rintro v w w' ⟨A,c,e,h⟩ hg
 exact ⟨A,c,e,own_below h hg⟩
theorem sec_fork {s k:Int}:tapeOkB (keyedI s 9 k) 0=true:=by
 unfold tapeOkB
 rw [keyedI_word]
 rfl
theorem sec_five {L:List St} {ins:List (List Int)} {s a s' a':Int}:secR L ins s a s' a' 5=false∧secL L ins s a s' a' 5=[]:=by
 have hr:secR L ins s a s' a' 5=false:=by
  unfold secR lbtB
  rw [show inB 5 0 4=false from rfl]
  simp
 refine ⟨hr,?_⟩
 unfold secL
 rw [if_neg (by rw [hr]; exact Bool.false_ne_true)]
--HERE
namespace everyParty
set_option maxRecDepth 100000 in
set_option maxHeartbeats 6400000 in
theorem walk (A:Option Addr) (c:Nat) (bs:List Int) (w:World) (hb:Bytes w w.heap.size A bs) :
  Calls Tryz.prog 4 #[.slice A bs.length c] w fun e w'=>e=.returned (.bool true)∧Below w.heap.size w w':=by
 have hl:=hb.len
 have HB:=hid hb
 clear hb
 by_cases h1:(1048576:Int) < (bs.length:Int)
 ·go_enter Tryz.func4,Tryz.ntmps4
  go_wp2_with (go_at_call 9; refine (big_any _ _ _ _ hl).mono ?_; rintro e w' ⟨rfl,rfl⟩)
  go_ret
  exact ⟨rfl,Below.refl _ _⟩
 go_enter Tryz.func4,Tryz.ntmps4
 go_wp2_with fail
 refine (big_any _ _ _ _ hl).mono ?_
 rintro e w' ⟨rfl,rfl⟩
 go_wp2_with fail
 refine (secure_is _ _ _ _ HB.out).mono ?_
 rintro e w1 ⟨L,Ap,cp,ls,Ai,ci,s,a,s',a',q,⟨⟨hL7,hLp⟩,hl5,⟨ht,ha⟩,⟨ht',ha'⟩,q0,q1⟩,rfl,hro,hio,hpo,hb1⟩
 obtain ⟨hu,huL⟩:=loopless hLp (by omega)
 have hcap:=own_cap hpo
 have hcel:=Cells.of_own hpo
 have hcin:=Cells.of_own hro
 rw [←toI_W hio] at hcin
 have z1:=hb1.size
 have HPO:=hid (And.intro hcel (And.intro hcin (toI_in hio)))
 have HW1:=hid hb1
 obtain ⟨hib,hm⟩:=toI_ok hio hl5
 have RP:=fun w hc hci hi=>sRunYes Ap cp L Ai ci (toI ls) w hc (by omega) hci hi hm hu hib
 have RS:=fun (k:Int) w (hk:0≤k∧k < 5) hc hci hi=>(show Calls Tryz.prog 12 #[.slice Ap L.length cp,.slice Ai (toI ls).length ci,.agg #[.int .i64 (keyedI s 9 k),.int .i64 0],.agg #[.int .i64 s',.int .i64 a'],.int .i64 k] w (GivesPair w (runL (insN (toI ls)) (unrL L)).o true) from by
  have h:=iRunSecure Ap cp L Ai ci (toI ls) (keyedI s 9 k) 0 s' a' k w hc (by omega) hcap hci hi hm
  obtain ⟨hre,hse⟩:=sec_top (s:=keyedI s 9 k) (a:=0) (s':=s') (a':=a') (q:=k) hib hu sec_fork (by omega) ht' ha' (And.left hk) (And.right hk)
  rw [hre,hse] at h
  exact h)
 have R5:=fun w hc hci hi=>iRunSecure Ap cp L Ai ci (toI ls) s a s' a' 5 w hc (by omega) hcap hci hi hm
 obtain ⟨hre,hse⟩:=sec_five (L:=L) (ins:=insN (toI ls)) (s:=s) (a:=a) (s':=s') (a':=a')
 rw [hre,hse] at R5
 have hxl:=runO_len (insN (toI ls)) (unrL L)
 rw [huL] at RP RS hxl
 rw [toI_len,hl5] at RP RS R5
 obtain ⟨xs,hxs⟩:∃ x,(runL (insN (toI ls)) L).o=x:=⟨_,rfl⟩
 rw [hxs] at RP RS hxl
 have HRP:=hid RP
 have HRS:=hid RS
 have HR5:=hid R5
 have HFK:=hid (fun (k:Int) w hk=>iTapeFork s a k w ht hk)
 have SI:=hid (fun A B c d w ha hc=>sameInts_same A B c d xs w ha hc (by omega))
 clear hro hio hpo hb1 hcel hcin hcap hLp hib hm hre hse hxs hu huL ht ht' hl5 RP RS R5 hxl
 have b_1:=(Below.refl w1.heap.size w1)
 have s_1:=b_1.size
 go_upto_region 4 with fail
 refine wp_forget2 (w0:=w1) (B:=w1.heap.size) (b0:=w1.heap.size) (t0:=27) (c0:=#[.int .i64 s,.int .i64 a]) (b1:=w1.heap.size + 1) (t1:=27) (c1:=#[.int .i64 s',.int .i64 a']) ?_ ?_ ?_ ?_
 (focus exact blkcBy)
 (focus exact blkcBy)
 (focus (exact belBy))
 intro w2 t1_2 t2_2 hX2
 have sX2:=hX2.size
 have t1_lt:=t1_2.lt
 have t2_lt:=t2_2.lt
 have b_2:=b_1.trans (hX2.mono (by omega))
 clear b_1 hX2
 have cell_t1:=t1_2.cell
 have froz_t1:=t1_2.frozen
 have lt_t1:=t1_2.lt
 have cell_t2:=t2_2.cell
 have froz_t2:=t2_2.frozen
 have lt_t2:=t2_2.lt
 have z2:=b_2.size
 have HW2:=hid (HW1.out.trans (b_2.mono z1))
 have HP2:=hid (And.intro ((HPO.out.1.below b_2).more (B':=w2.heap.size) (by omega)) (And.intro ((HPO.out.2.1.below b_2).more (B':=w2.heap.size) (by omega)) ((HPO.out.2.2.below b_2 (Nat.le_refl _)).more (by omega))))
 have HT:=hid (And.intro t1_2 t2_2)
 clear t1_2 t2_2 b_2 cell_t1 froz_t1 lt_t1 cell_t2 froz_t2 lt_t2 HW1 HPO
 go_wp2_with fail
 refine Calls.mono (HRP.out _ HP2.out.1 HP2.out.2.1 HP2.out.2.2) ?_
 rintro e w3 ⟨A3,c3,rfl,h3,hb⟩
 have z3:=hb.size
 have HW3:=hid (HW2.out.trans (hb.mono (by omega)))
 have HP3:=hid (fun w' (h:Below w3.heap.size w3 w')=>And.intro (((HP2.out.1.below hb).below (h.mono z3)).more (B':=w'.heap.size) (by have:=h.size; omega)) (And.intro (((HP2.out.2.1.below hb).below (h.mono z3)).more (B':=w'.heap.size) (by have:=h.size; omega)) (((HP2.out.2.2.below hb (Nat.le_refl _)).below h z3).more (B':=w'.heap.size) (by have:=h.size; omega))))
 have HT3:=hid (And.intro (HT.out.1.past hb) (HT.out.2.past hb))
 have HC3:=hid (Cells.of_own h3)
 clear h3 hb HW2 HP2 HT
 go_wp2_with fail
 go_loopw [10] (fun i wr=>∃ k:Nat,k≤5∧i=.int .i64 (k:Int)∧Below w3.heap.size w3 wr) (fun i _=>5 - (intOf i).toNat)
 case atStart=>exact ⟨0,Nat.zero_le _,rfl,Below.refl _ _⟩
 case round =>
  obtain ⟨k,hk,rfl,hb⟩:=hrel
  have zb:=hb.size
  have HBW:=hid hb
  have t1r:=HT3.out.1.past hb
  have t2r:=HT3.out.2.past hb
  have HTR:=hid (And.intro t1r t2r)
  clear hb
  by_cases hlt:k < 5
  ·have hlt':(k:Int) < 5:=by omega
   have k00:(0:Int)≤(k:Int):=by omega
   clear t1r t2r
   go_upto_region 8 with fail
   have qa0:=fun (X:Later wr)=>show X.val.cell? ⟨w1.heap.size,0,none⟩=some (Value.int .i64 s) from (HTR.out.1.past X.below).cell 0
   have qa1:=fun (X:Later wr)=>show X.val.cell? ⟨w1.heap.size,1,none⟩=some (Value.int .i64 a) from (HTR.out.1.past X.below).cell 1
   have qb0:=fun (X:Later wr)=>show X.val.cell? ⟨w1.heap.size + 1,0,none⟩=some (Value.int .i64 s') from (HTR.out.2.past X.below).cell 0
   have qb1:=fun (X:Later wr)=>show X.val.cell? ⟨w1.heap.size + 1,1,none⟩=some (Value.int .i64 a') from (HTR.out.2.past X.below).cell 1
   refine wp_grow (W:=wr) (spec:=specAt [(4,.con (.agg #[.int .i64 (keyedI s 9 k),.int .i64 0])),(7,.any (PairOf wr.heap.size xs.length xs)),(8,.any (PairOf wr.heap.size xs.length xs)),(9,.any (RowOf wr.heap.size 3 1 xs.length (ints xs))),(10,.con (.bool true))]) (by kernel_rfl) (by kernel_rfl) (Onward.mk' ((Below.refl _ _).drew)) (specAt_stab ?_) ?_
   ·intro p hp F hF
    simp only [List.mem_cons,List.not_mem_nil,or_false] at hp
    rcases hp with rfl | rfl | rfl | rfl | rfl
    all_goals first | (cases hF; done) | (injection hF with hF; subst hF; exact PairOf.stable) | (injection hF with hF; subst hF; exact RowOf.stable)
   refine gList_quietK 4 ⟨rfl,rfl,rfl,rfl,rfl,rfl,rfl,rfl,trivial⟩ (by decide) ?_
   delta Onward
   dsimp only [List.take,List.drop]
   repeat (go_big_quiet_step (fail))
   refine wpQuiet_nil ?_
   refine gList_con (.agg #[.int .i64 (keyedI s 9 k),.int .i64 0]) rfl rfl (fun w' hC _=>?_) ?_
   ·obtain ⟨⟨w',hb⟩,rfl⟩:=hC
    exact grow_con (by simp [go_sem]) (HFK.out _ _ (inB_iff.2 (by omega)))
   refine gList_quietK 2 ⟨rfl,rfl,rfl,rfl,trivial⟩ (by decide) ?_
   simp only [Act.put,List.setIfInBounds_toArray,List.set_cons_succ,List.set_cons_zero]
   dsimp only [List.take,List.drop]
   repeat (go_big_quiet_step (fail))
   refine wpQuiet_nil ?_
   refine gList_any (PairOf wr.heap.size xs.length xs) rfl rfl (fun w' hC hd=>?_) (fun v=>?_)
   ·obtain ⟨⟨w',hb⟩,rfl⟩:=hC
    have hp:=HP3.out w' (HBW.out.trans (hb.mono zb))
    refine grow_call (by simp [go_sem]) ((HRS.out _ _ ⟨k00,hlt'⟩ hp.1 hp.2.1 hp.2.2).mono ?_)
    rintro e w'' ⟨A2,c2,rfl,h2,hb'⟩
    exact ⟨_,rfl,hb',A2,c2,rfl,own_weak h2 hb.size⟩
   refine gList_any (PairOf wr.heap.size xs.length xs) rfl rfl (fun w' hC hd=>?_) (fun v8=>?_)
   ·obtain ⟨A2,c2,rfl,h2⟩:=(show PairOf wr.heap.size xs.length xs v w' from hd 7 (by kernel_rfl))
    exact ⟨Below.refl _ _,A2,c2,rfl,h2⟩
   refine gList_any (RowOf wr.heap.size 3 1 xs.length (ints xs)) rfl rfl (fun w' hC hd=>?_) (fun v9=>?_)
   ·obtain ⟨A2,c2,rfl,h2⟩:=(show PairOf wr.heap.size xs.length xs v8 w' from hd 8 (by kernel_rfl))
    exact ⟨Below.refl _ _,A2,c2,rfl,h2⟩
   refine gList_con (.bool true) rfl rfl (fun w' hC hd=>?_) ?_
   ·obtain ⟨A2,c2,rfl,h2⟩:=(show PairOf wr.heap.size xs.length xs v8 w' from hd 8 (by kernel_rfl))
    exact ⟨Below.refl _ _,rfl⟩
   refine gList_quietK 2 ⟨rfl,rfl,rfl,rfl,trivial⟩ (by decide) ?_
   simp only [Act.put,List.setIfInBounds_toArray,List.set_cons_succ,List.set_cons_zero]
   dsimp only [List.take,List.drop]
   repeat (go_big_quiet_step (fail))
   refine wpQuiet_nil ?_
   unfold gList
   intro w' hW hfs
   have hlast:RowOf wr.heap.size 3 1 xs.length (ints xs) v9 w':=hfs 9
   obtain ⟨⟨w32,hb⟩,rfl⟩:=hW
   obtain ⟨A2,c2,rfl,h2⟩:=hlast
   have s32:=hb.size
   have HB2:=hid (HBW.out.trans (hb.mono zb))
   have HC2:=hid (And.intro (Cells.of_own h2) ((HC3.out.below (HBW.out.trans (hb.mono zb))).more (B':=w'.heap.size) (by omega)))
   clear qa0 qa1 qb0 qb1 hfs h2 hb HBW HTR
   try dsimp only [List.drop]
   try simp only [Act.put,List.setIfInBounds_toArray,List.set_cons_succ,List.set_cons_zero]
   go_wp2_with fail
   refine Calls.mono (SI.out _ _ _ _ _ HC2.out.1 HC2.out.2) ?_
   rintro e w5 ⟨rfl,hb⟩
   have HB5:=hid (HB2.out.trans (hb.mono (by omega)))
   clear hb
   go_wp2_with fail
   go_roundw
   case rel=>exact ⟨k + 1,by omega,by go_num,HB5.out⟩
   case measure=>simp [intOf]; omega
  ·obtain rfl:k=5:=by omega
   have cell_t1:=t1r.cell
   have lt_t1:=t1r.lt
   have cell_t2:=t2r.cell
   have lt_t2:=t2r.lt
   clear t1r t2r
   go_wp2_with fail
   refine Calls.mono (HR5.out _ (HP3.out _ HBW.out).1 (HP3.out _ HBW.out).2.1 (HP3.out _ HBW.out).2.2) ?_
   rintro e w4 ⟨A4,c4,rfl,h4,hb⟩
   have HW4:=hid (HW3.out.trans ((HBW.out.trans (hb.mono zb)).mono (by omega)))
   clear h4 hb cell_t1 cell_t2 lt_t1 lt_t2
   go_wp2
   go_ret
   exact ⟨rfl,HW4.out⟩
set_option maxRecDepth 100000 in
theorem lifted (os:Os) (started:os.Started) (H:Type) (enc:TypeId × Value→H) :
  ReturnsInHanded {} Tryz.checked os 4 .any (Rows.fnEveryPartySpec.pre6 enc Tryz.prog Tryz.f4 Rows.fnEveryPartyRow.domain false) (Rows.fnEveryPartySpec.post enc Tryz.prog Tryz.f4 false true false false):=by
 refine returnsInHanded_of_change (C:=Tryz.checked) own started (by kernel_rfl) Tryz.func4
  (ChangeSpec.witness6 (enc:=enc) (C:=Tryz.checked) false ⟨#[],#[.slice none 0 0],[]⟩ 8 (by kernel_rfl) (by kernel_rfl) (by kernel_rfl) (by kernel_rfl)) ?_
 intro W base args ds gs before hval0 hW _ _
 have hval:∀ (j:Nat) t v,Tryz.f4.params[j]? = some t→args[j]? = some v→Value.okWide Tryz.prog W .any base t v:=hval0
 have hW':=hW
 obtain ⟨p,q,hA0,hV,rfl,_,_⟩:=hW
 have hA:DataW.TrodAll enc Tryz.prog W 0 (fun _=>true) true Tryz.f4.params.toList args.toList ds p:=hA0
 rw [Tryz.params4] at hA hval
 obtain ⟨v0,vs0,d0,ds0,p0,q0,hargs,rfl,rfl,h0,r0⟩:=trodAll_cons hA
 obtain ⟨rfl,rfl,rfl⟩:=trodAll_nil r0
 obtain rfl:args=#[v0]:=by cases args; simp_all
 obtain ⟨rfl,rfl⟩:=trodVars_none hV
 obtain ⟨A0,c0,xs0,rfl,hb0⟩:=view_bytes Tryz.underlying22 Tryz.underlying5 (by kernel_rfl) (hval 0 22 v0 rfl rfl) h0 (fun x hx=>hW'.lt x (by simp [hx]))
 refine (walk A0 c0 xs0 W hb0).mono fun e W' ⟨he,hb⟩=>?_
 subst he
 exact ⟨_,rfl,law_post rfl (by kernel_rfl) (by kernel_rfl) rfl Tryz.underlying4 hW' rfl rfl rfl hb⟩
theorem closed:joinedFacts Tryz.prog 4 Tryz.f4 Rows.fnEveryPartySpec Rows.fnEveryPartyRow=true:=by
 unfold joinedFacts
 rw [makeIs,mayIs,finalsIs]
 kernel_rfl
theorem over:Rows.fnEveryPartyRow.holds Tryz.pinned (OpenSpec.ofChange Rows.fnEveryPartySpec) :=
 OpenClaim.holds_of_wide 4 Tryz.f4 rfl rfl rfl rfl rfl rfl rfl ⟨rfl,rfl,rfl,rfl,rfl⟩ rfl rfl rfl rfl rfl (by kernel_rfl) Tryz.func4 closed
  (of_decide_eq_true (by kernel_rfl)) (by unfold Func.isWrapper; first | (rw [if_pos (by decide +kernel)]; kernel_rfl) | (rw [if_neg (by decide +kernel)]; exact ⟨rfl,rfl⟩))
  (fun os started H enc _=>lifted os started H enc)
theorem proved:Rows.FnEveryPartySaid:=over
#print axioms proved
end everyParty
end Go.Proofs.YtihbaieiempjeaaGreat
