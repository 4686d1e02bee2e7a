/- The law that the secure run answers as the plain run (FnTop). No conditions. -/
import Derived.Test.YtihbaieiempjeaaGreatC0
import Derived.Test.YtihbaieiempjeaaGreatC4
import Derived.Test.YtihbaieiempjeaaGreatC20
import Derived.Test.YtihbaieiempjeaaGreatC22
set_option linter.unusedVariables false
namespace Go.Proofs.YtihbaieiempjeaaGreat
open Go.RowKit Go.ChangeShapes Go.WideShapes Go.ChangeAt
namespace top
set_option maxRecDepth 100000 in
set_option maxHeartbeats 6400000 in
theorem walk (A:Option Addr) (c:Nat) (bs:List Int) (w:World) (hb:Bytes w w.heap.size A bs) :
  Calls Tryz.prog 3 #[.slice A bs.length c] w fun e w'=>e=.returned (.bool true)∧Below w.heap.size w w':=by
 have hl:=hb.len
 have HB:=hid hb
 clear hb
 by_cases h1:(1048576:Int) < (bs.length:Int)
 ·go_enter Tryz.func3,Tryz.ntmps3
  go_wp2_with (go_at_call 9; refine (big_any _ _ _ _ hl).mono ?_; rintro e w' ⟨rfl,rfl⟩)
  go_ret
  exact ⟨rfl,Below.refl _ _⟩
 go_enter Tryz.func3,Tryz.ntmps3
 go_wp2_with fail
 refine (big_any _ _ _ _ hl).mono ?_
 rintro e w' ⟨rfl,rfl⟩
 go_wp2_with fail
 refine (secure_is _ _ _ _ HB.out).mono ?_
 rintro e w1 ⟨L,Ap,cp,ls,Ai,ci,s,a,s',a',q,⟨⟨hL7,hLp⟩,hl5,⟨ht,ha⟩,⟨ht',ha'⟩,q0,q1⟩,rfl,hro,hio,hpo,hb1⟩
 obtain ⟨hu,huL⟩:=loopless hLp (by omega)
 have hcap:=own_cap hpo
 have hcel:=Cells.of_own hpo
 have hcin:=Cells.of_own hro
 rw [←toI_W hio] at hcin
 have z1:=hb1.size
 have HPO:=hid (And.intro hcel (And.intro hcin (toI_in hio)))
 have HW1:=hid hb1
 obtain ⟨hib,hm⟩:=toI_ok hio hl5
 have RP:=fun w hc hci hi=>sRunYes Ap cp L Ai ci (toI ls) w hc (by omega) hci hi hm hu hib
 have RS:=fun w hc hci hi=>iRunSecure Ap cp L Ai ci (toI ls) s a s' a' q w hc (by omega) hcap hci hi hm
 obtain ⟨hre,hse⟩:=sec_top (s:=s) (a:=a) (s':=s') (a':=a') (q:=q) hib hu ht ha ht' ha' q0 q1
 have hxl:=runO_len (insN (toI ls)) (unrL L)
 rw [hre,hse] at RS
 rw [huL] at RP RS hxl
 rw [toI_len,hl5] at RP RS
 obtain ⟨xs,hxs⟩:∃ x,(runL (insN (toI ls)) L).o=x:=⟨_,rfl⟩
 rw [hxs] at RP RS hxl
 have HRP:=hid RP
 have HRS:=hid RS
 have SI:=hid (fun A B c d w ha hc=>sameInts_same A B c d xs w ha hc (by omega))
 clear hro hio hpo hb1 hcel hcin hcap hLp hib hm hre hse hxs hu huL ht ht' hl5 RP RS hxl
 have b_1:=(Below.refl w1.heap.size w1)
 have s_1:=b_1.size
 go_upto_region 4 with fail
 refine wp_forget2 (w0:=w1) (B:=w1.heap.size) (b0:=w1.heap.size) (t0:=27) (c0:=#[.int .i64 s,.int .i64 a]) (b1:=w1.heap.size + 1) (t1:=27) (c1:=#[.int .i64 s',.int .i64 a']) ?_ ?_ ?_ ?_
 (focus exact blkcBy)
 (focus exact blkcBy)
 (focus (exact belBy))
 intro w2 t1_2 t2_2 hX2
 have sX2:=hX2.size
 have t1_lt:=t1_2.lt
 have t2_lt:=t2_2.lt
 have b_2:=b_1.trans (hX2.mono (by omega))
 clear b_1 hX2
 have cell_t1:=t1_2.cell
 have froz_t1:=t1_2.frozen
 have lt_t1:=t1_2.lt
 have cell_t2:=t2_2.cell
 have froz_t2:=t2_2.frozen
 have lt_t2:=t2_2.lt
 have z2:=b_2.size
 have HW2:=hid (HW1.out.trans (b_2.mono z1))
 have HP2:=hid (And.intro ((HPO.out.1.below b_2).more (B':=w2.heap.size) (by omega)) (And.intro ((HPO.out.2.1.below b_2).more (B':=w2.heap.size) (by omega)) ((HPO.out.2.2.below b_2 (Nat.le_refl _)).more (by omega))))
 have HT:=hid (And.intro t1_2 t2_2)
 clear t1_2 t2_2 b_2 cell_t1 froz_t1 lt_t1 cell_t2 froz_t2 lt_t2 HW1 HPO
 go_wp2_with fail
 refine Calls.mono (HRP.out _ HP2.out.1 HP2.out.2.1 HP2.out.2.2) ?_
 rintro e w3 ⟨A3,c3,rfl,h3,hb⟩
 have z3:=hb.size
 have HW3:=hid (HW2.out.trans (hb.mono (by omega)))
 have HP3:=hid (And.intro ((HP2.out.1.below hb).more (B':=w3.heap.size) (by omega)) (And.intro ((HP2.out.2.1.below hb).more (B':=w3.heap.size) (by omega)) ((HP2.out.2.2.below hb (Nat.le_refl _)).more (by omega))))
 have t1_3:=HT.out.1.past hb
 have t2_3:=HT.out.2.past hb
 have cell_t1:=t1_3.cell
 have lt_t1:=t1_3.lt
 have cell_t2:=t2_3.cell
 have lt_t2:=t2_3.lt
 have HC3:=hid (Cells.of_own h3)
 clear h3 hb HW2 HP2 HT t1_3 t2_3
 go_wp2_with fail
 refine Calls.mono (HRS.out _ HP3.out.1 HP3.out.2.1 HP3.out.2.2) ?_
 rintro e w4 ⟨A4,c4,rfl,h4,hb⟩
 have z4:=hb.size
 have HW4:=hid (HW3.out.trans (hb.mono (by omega)))
 have HC4:=hid (And.intro ((HC3.out.below hb).more (B':=w4.heap.size) (by omega)) (Cells.of_own h4))
 clear h4 hb HW3 HP3 HC3 cell_t1 cell_t2 lt_t1 lt_t2
 go_wp2_with fail
 refine Calls.mono (SI.out _ _ _ _ _ HC4.out.1 HC4.out.2) ?_
 rintro e w5 ⟨rfl,hb⟩
 have HW5:=hid (HW4.out.trans (hb.mono (by omega)))
 clear hb
 go_wp2
 go_ret
 exact ⟨rfl,HW5.out⟩
set_option maxRecDepth 100000 in
theorem lifted (os:Os) (started:os.Started) (H:Type) (enc:TypeId × Value→H) :
  ReturnsInHanded {} Tryz.checked os 3 .any (Rows.fnTopSpec.pre6 enc Tryz.prog Tryz.f3 Rows.fnTopRow.domain false) (Rows.fnTopSpec.post enc Tryz.prog Tryz.f3 false true false false):=by
 refine returnsInHanded_of_change (C:=Tryz.checked) own started (by kernel_rfl) Tryz.func3
  (ChangeSpec.witness6 (enc:=enc) (C:=Tryz.checked) false ⟨#[],#[.slice none 0 0],[]⟩ 8 (by kernel_rfl) (by kernel_rfl) (by kernel_rfl) (by kernel_rfl)) ?_
 intro W base args ds gs before hval0 hW _ _
 have hval:∀ (j:Nat) t v,Tryz.f3.params[j]? = some t→args[j]? = some v→Value.okWide Tryz.prog W .any base t v:=hval0
 have hW':=hW
 obtain ⟨p,q,hA0,hV,rfl,_,_⟩:=hW
 have hA:DataW.TrodAll enc Tryz.prog W 0 (fun _=>true) true Tryz.f3.params.toList args.toList ds p:=hA0
 rw [Tryz.params3] at hA hval
 obtain ⟨v0,vs0,d0,ds0,p0,q0,hargs,rfl,rfl,h0,r0⟩:=trodAll_cons hA
 obtain ⟨rfl,rfl,rfl⟩:=trodAll_nil r0
 obtain rfl:args=#[v0]:=by cases args; simp_all
 obtain ⟨rfl,rfl⟩:=trodVars_none hV
 obtain ⟨A0,c0,xs0,rfl,hb0⟩:=view_bytes Tryz.underlying22 Tryz.underlying5 (by kernel_rfl) (hval 0 22 v0 rfl rfl) h0 (fun x hx=>hW'.lt x (by simp [hx]))
 refine (walk A0 c0 xs0 W hb0).mono fun e W' ⟨he,hb⟩=>?_
 subst he
 exact ⟨_,rfl,law_post rfl (by kernel_rfl) (by kernel_rfl) rfl Tryz.underlying4 hW' rfl rfl rfl hb⟩
theorem closed:joinedFacts Tryz.prog 3 Tryz.f3 Rows.fnTopSpec Rows.fnTopRow=true:=by
 unfold joinedFacts
 rw [makeIs,mayIs,finalsIs]
 kernel_rfl
theorem over:Rows.fnTopRow.holds Tryz.pinned (OpenSpec.ofChange Rows.fnTopSpec) :=
 OpenClaim.holds_of_wide 3 Tryz.f3 rfl rfl rfl rfl rfl rfl rfl ⟨rfl,rfl,rfl,rfl,rfl⟩ rfl rfl rfl rfl rfl (by kernel_rfl) Tryz.func3 closed
  (of_decide_eq_true (by kernel_rfl)) (by unfold Func.isWrapper; first | (rw [if_pos (by decide +kernel)]; kernel_rfl) | (rw [if_neg (by decide +kernel)]; exact ⟨rfl,rfl⟩))
  (fun os started H enc _=>lifted os started H enc)
theorem proved:Rows.FnTopSaid:=over
#print axioms proved
end top
end Go.Proofs.YtihbaieiempjeaaGreat
